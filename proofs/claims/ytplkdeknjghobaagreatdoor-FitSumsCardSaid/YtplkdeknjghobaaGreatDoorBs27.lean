import Derived.Test.YtplkdeknjghobaaGreatDoorBs26
set_option maxRecDepth 100000
set_option maxHeartbeats 0
namespace Go.Proofs.YtplkdeknjghobaaGreatDoor
open Go.RowKit Go.Lib
theorem conv4s (q0 q1 q2 q3:UInt8) (n0 n1 n2 n3:Int) (h0:n0=(q0.toNat:Nat)) (h1:n1=(q1.toNat:Nat)) (h2:n2=(q2.toNat:Nat)) (h3:n3=(q3.toNat:Nat)) (W:World) :
  (convert 302 9 (.slice (some ⟨W.heap.size,0,none⟩) 4 4)).run Tryz.prog (W.alloc (.cells #[.int .u8 n0,.int .u8 n1,.int .u8 n2,.int .u8 n3] 5))=.ok (.string ⟨#[q0,q1,q2,q3]⟩) (W.alloc (.cells #[.int .u8 n0,.int .u8 n1,.int .u8 n2,.int .u8 n3] 5)):=by
 subst h0 h1 h2 h3;refine run_convert_bytes_back (P:=Tryz.prog) _ 302 9 5 ⟨W.heap.size,0,none⟩ 4 [q0,q1,q2,q3] Tryz.underlying302 Tryz.underlying5 Tryz.underlying9 ?_;intro j hj;have hg:=heap_alloc_new W (.cells #[.int .u8 (q0.toNat:Nat),.int .u8 (q1.toNat:Nat),.int .u8 (q2.toNat:Nat),.int .u8 (q3.toNat:Nat)] 5)
 match j,hj with
 | 0,_=>exact qC _ _ 0 _ _ _ hg
 | 1,_=>exact qC _ _ 1 _ _ _ hg
 | 2,_=>exact qC _ _ 2 _ _ _ hg
 | 3,_=>exact qC _ _ 3 _ _ _ hg
def g4 (i:Nat):ByteArray:=⟨#[48,48,UInt8.ofNat (48+i / 10),UInt8.ofNat (48+i % 10)]⟩
theorem qmv {n:Nat} (h:n<12):(UInt8.ofNat (48+n)).toNat=48+n:=by
 rcases (show n=0\/n=1\/n=2\/n=3\/n=4\/n=5\/n=6\/n=7\/n=8\/n=9\/n=10\/n=11 by omega) with rfl | rfl | rfl | rfl | rfl | rfl | rfl | rfl | rfl | rfl | rfl | rfl <;> rfl
theorem fourS (i:Nat) (hi:i<12) (w:World):Calls Tryz.prog 274 #[.int .i64 (i:Int)] w fun e w'=>e=.returned (.string (g4 i))/\Below w.heap.size w w':=by
 obtain⟨b,hb⟩:∃b,i / 10=b:=⟨_,rfl⟩;obtain⟨c,hc⟩:∃c,i % 10=c:=⟨_,rfl⟩;have hcv:=conv4s 48 48 (UInt8.ofNat (48+b)) (UInt8.ofNat (48+c)) 48 48 (48+(b:Int)) (48+(c:Int)) rfl rfl (by rw [qmv (by omega)];omega) (by rw [qmv (by omega)];omega);have hg:g4 i=⟨#[48,48,UInt8.ofNat (48+b),UInt8.ofNat (48+c)]⟩:=by unfold g4;rw [hb,hc]
 rw [<-hg] at hcv;have t1:(i:Int) / 1000=0:=by omega
 have t2:(i:Int) / 100=0:=by omega
 have t4:(i:Int) / 10=b:=by omega
 have t5:(b:Int) % 10=b:=by omega
 have t6:(i:Int) % 10=c:=by omega
 have l4:b<2:=by omega
 have l6:c<10:=by omega
 clear hb hc hg;generalize g4 i=G at *;go_enter Tryz.func274,Tryz.ntmps274;go_wp2;go_ret;exact⟨rfl,qbQ qB qN⟩
def PlS (W:World) (v:Value) (i:Nat):Prop:=∃(ao:Option Addr) (n c:Nat),v=.agg #[.bool false,.slice ao n c]/\((i=0/\n=0)\/(i≠0/\n=1/\∃g,ao=some ⟨g,0,none⟩/\W.cell? ⟨g,0,none⟩=some (.int .i64 (i:Int))))
theorem cutS0 (w:World):Calls Tryz.prog 271 #[.slice none 0 0] w fun e w'=>e=.returned (.slice none 0 0)/\w'=w:=by
 go_enter Tryz.func271,Tryz.ntmps271;go_wp2_with fail
 go_loopw [3] (fun x3 W=>x3=.int .i64 0/\W=w) (fun _ _=>0)
 case atStart=>exact⟨rfl,rfl⟩
 case round =>
  obtain⟨rfl,rfl⟩:=hrel;go_wp2;go_ret;exact⟨rfl,rfl⟩
theorem cutS1 (g c:Nat) (z:Int) (hz:z≠0) (hc:1<=c) (hc2:c<=9223372036854775807) (w:World) (hw:w.cell? ⟨g,0,none⟩=some (.int .i64 z)):Calls Tryz.prog 271 #[.slice (some ⟨g,0,none⟩) 1 c] w fun e w'=>e=.returned (.slice (some ⟨g,0,none⟩) 1 c)/\w'=w:=by
 have hzb:(z == 0)=false:=by rw [beq_eq_false_iff_ne];exact hz
 have HW:=qH hw;clear hw;go_enter Tryz.func271,Tryz.ntmps271;go_wp2_with fail
 go_loopw [3] (fun x3 W=>x3=.int .i64 1/\Hid (W=w)) (fun _ _=>0)
 case atStart=>exact⟨rfl,qH rfl⟩
 case round =>
  obtain⟨rfl,hWe⟩:=hrel;have hWe:=hWe.out.symm;subst hWe;have hw:=HW.out;go_wp2;go_ret;exact⟨rfl,rfl⟩
theorem madeS (ao:Option Addr) (n c:Nat) (w:World) (_hn:n<=1) (hc:∀W,Below w.heap.size w W->Calls Tryz.prog 271 #[.slice ao n c] W fun e w'=>e=.returned (.slice ao n c)/\w'=W) :
  Calls Tryz.prog 241 #[.bool false,.slice ao n c] w fun e w'=>e=.returned (.agg #[.bool false,.slice ao n c])/\Below w.heap.size w w':=by
 obtain⟨W1,hW1,K1⟩:=nw1 w #[.bool false,.slice none 0 0] 180;have HC:=qH (hc W1 K1.out.1);clear hc;go_enter Tryz.func241,Tryz.ntmps241;go_upto_region 1 with fail;rw [<-hW1];clear hW1;go_wp2_with fail;refine HC.out.mono ?_;rintro e w2 ⟨rfl,hw⟩;subst hw
 go_wp2_with ((with_reducible refine sR_ rfl 180 _ _ rfl (w.heap.size) #[.bool false,.slice ao n c] K1.out.2 2 ?_))
 exact qR (v:=.agg #[.bool false,.slice ao n c]) (rA_ rfl (w.heap.size) (qT _ _ _ _ _ _ K1.out.2) Tryz.underlying180 2) rfl ⟨rfl,qS K1.out.1 qN _⟩
theorem integerS (i:Nat) (hi:i<12) (w:World):Calls Tryz.prog 189 #[.int .i64 (i:Int)] w fun e w'=>∃v,e=.returned v/\PlS w' v i/\Below w.heap.size w w':=by
 obtain⟨W1,hW1,K1⟩:=nw1 w #[.bool false,.slice none 0 0] 180;have h0:¬(i:Int)<0:=by omega
 go_enter Tryz.func189,Tryz.ntmps189;go_upto_region 1 with fail;rw [<-hW1];clear hW1;go_wp2_with fail
 go_loopw [0,3] (fun x0 x3 W=>(x0=.int .i64 (i:Int)/\x3=.slice none 0 0/\Hid (W=W1))\/(i≠0/\x0=.int .i64 0/\Hid (IOwn W W1.heap.size x3 [(i:Int)]/\Below W1.heap.size W1 W))) (fun x0 _ _=>(RowKit.intOf x0).toNat)
 case atStart=>exact .inl ⟨rfl,rfl,qH rfl⟩
 case round =>
  rcases hrel with ⟨rfl,rfl,hWe⟩ | ⟨hi0,rfl,hI⟩
  ·have hWe:=hWe.out.symm;subst hWe
   by_cases hz:i=0
   ·have HC:=qH (madeS none 0 0 W1 (by decide) (fun W _=>cutS0 W));subst hz;go_wp2_with fail;refine HC.out.mono ?_;rintro e w2 ⟨rfl,hb⟩;have K2:=K1.below hb;clear hb
    go_wp2_with ((with_reducible refine sR_ rfl 180 _ _ rfl (w.heap.size) #[.bool false,.slice none 0 0] K2.out.2 2 ?_))
    exact qR (v:=.agg #[.bool false,.slice none 0 0]) (rA_ rfl (w.heap.size) (qT _ _ _ _ _ _ K2.out.2) Tryz.underlying180 2) rfl ⟨_,rfl,⟨none,0,0,rfl,.inl ⟨rfl,rfl⟩⟩,qS K2.out.1 qN _⟩
   ·have hne:((i:Int) != 0)=true:=by rw [bne_iff_ne];omega
    have m1:(i:Int) % 10000=i:=by omega
    have m2:(i:Int) / 10000=0:=by omega
    have hn0:IOwn W1 W1.heap.size (.slice none 0 0) []:=⟨rfl,.inl ⟨rfl,rfl⟩⟩;have HN:=qH hz;clear hz
    go_wp2_with (first | (at_builtin;refine qfW rfl _ _ rfl hn0 qN rfl rfl rfl (by decide) ?_;intro v' w' ho' hk';have HB4:Hid (Below W1.heap.size W1 w'):=qH (qdA (B:=W1.heap.size) (qbQ qB qN) (fun q hq=>by cases hq) (by simp only [qab];omega) hk'.out);clear hk') | fail)
    go_roundw
    case rel=>exact .inr ⟨HN.out,rfl,qH ⟨ho'.out,HB4.out⟩⟩
    case measure=>have:=HN.out;simp [RowKit.intOf];omega
  ·obtain⟨g,c,e,hN⟩:=IOwn.cells hI.out.1 Nat.zero_lt_one;have hcc:1<=c/\c<=9223372036854775807:=by
    rcases hI.out.1.2 with ⟨e2,h⟩ | ⟨g',cap,cur,e2,_,_,h1,h2,_⟩
    ·cases h
    ·rw [e] at e2;injection e2 with _ _ e3;subst e3;unfold maxLen at h2;exact⟨h1,by omega⟩
   have hc0:wr.cell? ⟨g,0,none⟩=some (.int .i64 (i:Int)):=hN.cell 0 Nat.zero_lt_one;have K2:=K1.below hI.out.2;have hlt:=(qac wr _ hc0:g<_);have hgw:w.heap.size<g\/w.heap.size=g\/g<w.heap.size:=by omega
   have HC:=qH (madeS (some ⟨g,0,none⟩) 1 c wr (by decide) (fun W hb=>cutS1 g c i (by omega) hcc.1 hcc.2 W ((hb.cell (p:=⟨g,0,none⟩) hlt).trans hc0)));have HH:=qH (qA hc0 (qA hlt hI.out.1));rw [show [(i:Int)].length=1 from rfl] at e;subst e;clear hI hN hcc hc0 hlt hgw;go_wp2_with fail;refine HC.out.mono ?_;rintro e w2 ⟨rfl,hb⟩;have K3:=K2.below hb;have hown2:=HH.out.2.2.below hb;have hc2:=(hb.cell (p:=⟨g,0,none⟩) HH.out.2.1).trans HH.out.1;have hgne:g≠w.heap.size:=fun e=>by
    subst e;have:=qC _ _ 0 _ _ _ K3.out.2;rw [hc2] at this;cases this
   have HE:=qH (qA hc2 hgne);clear hb hown2 hc2 hgne K2
   go_wp2_with ((with_reducible refine sR_ rfl 180 _ _ rfl (w.heap.size) #[.bool false,.slice (some ⟨g,0,none⟩) 1 c] K3.out.2 2 ?_))
   exact qR (v:=.agg #[.bool false,.slice (some ⟨g,0,none⟩) 1 c]) (rA_ rfl (w.heap.size) (qT _ _ _ _ _ _ K3.out.2) Tryz.underlying180 2) rfl ⟨_,rfl,⟨some ⟨g,0,none⟩,1,c,rfl,.inr ⟨hi0,rfl,g,rfl,(World.cell?_of_block (setRow_other _ _ _ _ HE.out.2)).trans HE.out.1⟩⟩,qS K3.out.1 qN _⟩
def z4 (i:Nat):Nat:=if i<10 then 3 else 2
theorem qmh {a:ByteArray} (h:a.size≠0):a.toList.isEmpty=false:=by
 rw [ByteArray.toList_eq];cases e:a.data.toList with
 | nil=>exact absurd (show a.size=0 by show a.data.size=0;rw [<-Array.length_toList,e];rfl) h
 | cons x l=>rfl
theorem ext4 (i:Nat) (hi:i<12) (h0:i≠0):(g4 i).extract (z4 i) (g4 i).size=num i:=by
 unfold num;rcases (show i=1\/i=2\/i=3\/i=4\/i=5\/i=6\/i=7\/i=8\/i=9\/i=10\/i=11 by omega) with rfl | rfl | rfl | rfl | rfl | rfl | rfl | rfl | rfl | rfl | rfl <;> first | (rw [qbW (by decide)];rfl) | (rw [qb4 (by decide),qbW (by decide)];rfl)
theorem textS (i:Nat) (hi:i<12) (v:Value) (w:World) (hv:PlS w v i):Calls Tryz.prog 251 #[v] w fun e w'=>e=.returned (.string (num i))/\Below w.heap.size w w':=by
 obtain⟨ao,n,c,rfl,h⟩:=hv;obtain⟨W1,hW1,K1⟩:=nw1 w #[.bool false,.slice ao n c] 180;rcases h with ⟨rfl,rfl⟩ | ⟨hi0,rfl,g,rfl,hc⟩
 ·have c0:=qC _ _ 0 _ _ _ K1.out.2;have c1:=qC _ _ 1 _ _ _ K1.out.2;go_enter Tryz.func251,Tryz.ntmps251;go_upto_region 1 with fail;rw [<-hW1];clear hW1;go_wp2_with fail
  go_loopw [3,4] (fun x3 x4 W=>x3=.string ⟨#[]⟩/\x4=.int .i64 (-1)/\Hid (W=W1)) (fun _ _ _=>0)
  case atStart=>exact⟨rfl,rfl,qH rfl⟩
  case round =>
   obtain⟨rfl,rfl,hWe⟩:=hrel;have hWe:=hWe.out.symm;subst hWe;go_wp2_with fail
   go_loopw [5] (fun x5 W=>x5=.int .i64 0/\Hid (W=W1)) (fun _ _=>0)
   case atStart=>exact⟨rfl,qH rfl⟩
   case round =>
    obtain⟨rfl,hWe⟩:=hrel;have hWe:=hWe.out.symm;subst hWe;go_wp2;go_ret;exact⟨by unfold num;rw [qbW (by decide)];rfl,K1.out.1⟩
 ·have HF:=qH fun W=>fourS i hi W
  have hc1:=(K1.out.1.cell (qac w _ hc)).trans hc;have c0:=qC _ _ 0 _ _ _ K1.out.2;have c1:=qC _ _ 1 _ _ _ K1.out.2;have HC:=qH (qA hc1 (qA c0 c1));clear hc hc1 c0 c1;go_enter Tryz.func251,Tryz.ntmps251;go_upto_region 1 with fail;rw [<-hW1];clear hW1;have c1:=HC.out.2.2;go_wp2_with fail;clear c1
  go_loopw [3,4] (fun x3 x4 W=>(x3=.string ⟨#[]⟩/\x4=.int .i64 0\/x3=.string (g4 i)/\x4=.int .i64 (-1))/\Hid (Below W1.heap.size W1 W)) (fun _ x4 _=>(RowKit.intOf x4+1).toNat)
  case atStart=>exact⟨.inl ⟨rfl,rfl⟩,qH qB⟩
  case round =>
   obtain⟨hx,hB⟩:=hrel;have c1:=(hB.out.cell (qac W1 _ HC.out.2.2)).trans HC.out.2.2;have cv:=(hB.out.cell (qac W1 _ HC.out.1)).trans HC.out.1;have c0:=(hB.out.cell (qac W1 _ HC.out.2.1)).trans HC.out.2.1;rcases hx with ⟨rfl,rfl⟩ | ⟨rfl,rfl⟩
   ·have hadd:∀W,(Op.stringOp .add ⟨#[]⟩ (g4 i)).run Tryz.prog W=.ok (.string (g4 i)) W:=fun W=>by
     have h:=run_string_add_sum (P:=Tryz.prog) W ⟨#[]⟩ (g4 i) (by have h1:(⟨#[]⟩:ByteArray).size=0:=rfl;have h2:(g4 i).size=4:=rfl;omega);have e:(⟨#[]⟩:ByteArray)++g4 i=g4 i:=by rcases (show i=1\/i=2\/i=3\/i=4\/i=5\/i=6\/i=7\/i=8\/i=9\/i=10\/i=11 by omega) with rfl | rfl | rfl | rfl | rfl | rfl | rfl | rfl | rfl | rfl | rfl <;> rfl
     rwa [e] at h
    go_wp2_with fail;refine (HF.out _).mono ?_;rintro e w2 ⟨rfl,hb⟩;have HB:=qH (hB.out.trans (hb.mono hB.out.size));clear hb c1 cv c0;go_wp2;go_roundw
    case rel=>exact⟨.inr ⟨rfl,rfl⟩,HB⟩
    case measure=>simp [RowKit.intOf]
   ·go_wp2_with fail;have HK:=qH (K1.out.1.trans (hB.out.mono K1.out.1.size));clear c1 cv;have K0:=qH c0;clear c0 hB HF HC
    go_loopw [5] (fun x5 W=>∃k:Nat,x5=.int .i64 (k:Int)/\k<=z4 i/\Hid (W=wr)) (fun x5 _=>4-(RowKit.intOf x5).toNat)
    case atStart=>exact⟨0,rfl,qal _,qH rfl⟩
    case round =>
     obtain⟨k,rfl,hk,hWe⟩:=hrel;have hWe:=hWe.out.symm;subst hWe;have c0:_=some (Value.bool false):=K0.out;clear K0;have hk3:k<=3:=by unfold z4 at hk;split at hk <;> omega
     rcases (show i=1\/i=2\/i=3\/i=4\/i=5\/i=6\/i=7\/i=8\/i=9\/i=10\/i=11 by omega) with rfl | rfl | rfl | rfl | rfl | rfl | rfl | rfl | rfl | rfl | rfl
     all_goals rcases (show k=0\/k=1\/k=2\/k=3 by omega) with rfl | rfl | rfl | rfl
     all_goals try exact absurd hk (by decide)
     all_goals clear hk hk3
     all_goals go_wp2_with fail
     all_goals first
      | exact⟨⟨1,rfl,by decide,qH trivial⟩,by decide⟩
      | exact⟨⟨2,rfl,by decide,qH trivial⟩,by decide⟩
      | exact⟨⟨3,rfl,by decide,qH trivial⟩,by decide⟩
      | skip
     all_goals go_ret
     all_goals first | exact⟨congrArg (fun s=>Ending.returned (Value.string s)) (ext4 _ hi hi0),HK.out⟩ | exact absurd ‹((g4 _).extract _ _).toList.isEmpty=true› (by rw [qmh (by decide)];decide)
theorem qmt (i:Nat) (hi:i<12):(num i).size<=4:=by
 rcases (show i=0\/i=1\/i=2\/i=3\/i=4\/i=5\/i=6\/i=7\/i=8\/i=9\/i=10\/i=11 by omega) with rfl | rfl | rfl | rfl | rfl | rfl | rfl | rfl | rfl | rfl | rfl | rfl <;> (unfold num;first | (rw [qbW (by decide)];decide) | (rw [qb4 (by decide),qbW (by decide)];decide))
theorem outS (i:Nat) (hi:i<12) (v:Value) (w:World) (hv:PlS w v i):Calls Tryz.prog 194 #[v] w fun e w'=>e=.returned (.tuple #[.string (num i),.int .i64 0])/\Below w.heap.size w w':=by
 obtain⟨ao,n,c,rfl,h⟩:=hv;obtain⟨W1,hW1,K1⟩:=nw1 w #[.bool false,.slice ao n c] 180;have hv1:PlS W1 (.agg #[.bool false,.slice ao n c]) i:=⟨ao,n,c,rfl,h.imp id fun⟨a,b,g,e,hc⟩=>⟨a,b,g,e,(K1.out.1.cell (qac w _ hc)).trans hc⟩⟩;have HT:=qH (textS i hi _ W1 hv1);have hsz:=qmt i hi;have hsz2:¬(((num i).size:Nat):Int) > 600:=by omega
 clear hv1 h hsz;generalize num i=S at *;go_enter Tryz.func194,Tryz.ntmps194;go_upto_region 1 with fail;rw [<-hW1];clear hW1
 go_wp2_with ((with_reducible refine lW_ rfl 180 _ rfl (w.heap.size) #[.bool false,.slice ao n c] K1.out.2 Tryz.underlying180 2 ?_))
 refine HT.out.mono ?_;rintro e w2 ⟨rfl,hb⟩;have K2:=K1.below hb;have c0:=qC _ _ 0 _ _ _ K2.out.2;clear hb K1;go_wp2_with fail
 go_ret2
 exact⟨rfl,K2.out.1⟩
theorem rof_any (i:Nat) (hi:i<12) (w:World):Calls Tryz.prog 122 #[.int .i64 (i:Int)] w fun e w'=>e=.returned (.string (num i))/\Below w.heap.size w w':=by
 have HI:=qH (integerS i hi w);have HO:=qH fun v W hv=>outS i hi v W hv
 clear hi;go_enter Tryz.func122,Tryz.ntmps122;go_wp2_with fail;refine HI.out.mono ?_;rintro e w2 ⟨v,rfl,hv,hb⟩;have H2:=qH (HO.out v w2 hv);have HB:=qH hb;clear hb hv;go_wp2_with fail;refine H2.out.mono ?_;rintro e w3 ⟨rfl,hb3⟩;have HB3:=qH (HB.out.trans (hb3.mono HB.out.size));clear hb3;go_wp2;go_ret;exact⟨rfl,HB3.out⟩
structure PRws (W:World) (ao:Option Addr) (b off:Nat) (L:List (List Int)):Prop where
 addr:0<L.length->ao=some ⟨b,off,none⟩
 cell:∀k,k<L.length->∀j,j<7->W.cell? ⟨b,off+k*7+j,none⟩=some (.int .i16 ((L.getD k []).getD j 0))
 rng:∀k j,-32768<=(L.getD k []).getD j 0/\(L.getD k []).getD j 0<=32767
theorem PRws.below {W W':World} {ao:Option Addr} {b off:Nat} {L:List (List Int)} (h:PRws W ao b off L) (hb:Below W.heap.size W W'):PRws W' ao b off L :=
 ⟨h.addr,fun k hk j hj=>(hb.cell (qac W _ (h.cell k hk j hj))).trans (h.cell k hk j hj),h.rng⟩
instance stays_prws {ao:Option Addr} {b off:Nat} {L:List (List Int)}:Stays fun W=>PRws W ao b off L:=⟨fun h hb=>h.below hb⟩
def devD (k:Nat) (zs:List Int):List Int:=(List.range k).map fun j=>patD (zs.getD j 0)
theorem qgf (k:Nat) (zs:List Int):(devD k zs).length=k:=by unfold devD;simp
theorem qlw (k:Nat) (zs:List Int):devD (k+1) zs=devD k zs++[patD (zs.getD k 0)]:=by unfold devD;rw [List.range_succ,qaW];rfl
theorem qdB {W:World} {B m:Nat} {v:Value} {l:List Int} (h:IOwn W B v l) (hm:l.length=m):∃(ao:Option Addr) (cap:Nat),v=.slice ao m cap:=by subst hm;exact qdH h
structure PoSt (w3 W:World) (g8 B:Nat) (nm:ByteArray) (Z:Array Value) (zs:List Int) (k:Nat) (v:Value):Prop where
 old:Below w3.heap.size w3 W
 row:W.heap[w3.heap.size]? = some (.cells #[.string nm,v,.int .i64 0,.int .i64 0,.int .i64 0] 55 (0,0))
 zr:W.heap[g8]? = some (.cells Z 201 (0,0))
 base:w3.heap.size<g8/\g8<B/\B<=W.heap.size
 own:IOwn W B v (devD k zs)
theorem PoSt.push {w3 W wA w':World} {g8 B:Nat} {nm:ByteArray} {Z:Array Value} {zs:List Int} {k:Nat} {v v':Value} (h:PoSt w3 W g8 B nm Z zs k v) (hb:Below W.heap.size W wA) (ho:IOwn w' B v' (devD (k+1) zs))
  (hk:v'.ownBlock=v.ownBlock/\wA.grownBy w' v.ownBlock\/v'.ownBlock=some wA.heap.size/\wA.grownBy w' none) :
  (w'.cell? ⟨w3.heap.size,1,none⟩=some v/\w'.frozen? ⟨w3.heap.size,1,none⟩=false)/\PoSt w3 (w'.setCell ⟨w3.heap.size,1,none⟩ v') g8 B nm Z zs (k+1) v':=by
 have hlt:=h.own.lt;have hB0:Below B wA w':=by
  have hs:=hb.size;have hbs:=h.base.2.2;rcases hk with ⟨_,hg⟩ | ⟨_,hg⟩
  ·exact⟨hg.os,hg.tape,hg.output,hg.size,fun q hq=>hg.block q (by omega) (fun e=>by have:=(hlt q e.symm).1;omega)⟩
  ·exact⟨hg.os,hg.tape,hg.output,hg.size,fun q hq=>hg.block q (by omega) (fun e=>by cases e)⟩
 have hB:Below B W w':=(hb.mono h.base.2.2).trans hB0;have hrow:=(hB.block _ (Nat.lt_trans h.base.1 h.base.2.1)).trans h.row;have hzr:=(hB.block _ h.base.2.1).trans h.zr;refine⟨⟨qC _ _ 1 _ _ _ hrow,qF _ _ _ _ _ hrow⟩,(h.old.trans (hB.mono (by have:=h.base.1;have:=h.base.2.1;omega))).setCell (p:=⟨w3.heap.size,1,none⟩) qN _,heap_setCell_same _ _ 1 _ _ _ hrow,?_,⟨h.base.1,h.base.2.1,by rw [qbv];exact qaj h.base.2.2 hB.size⟩,?_⟩
 ·rw [qW _ _ _ _ (show g8≠w3.heap.size by have:=h.base.1;omega)];exact hzr
 ·exact World.ownsRow.kept ho (frac.qbY w' w3.heap.size 1 v') (by
   cases e:v'.ownBlock with
   | none=>exact .inl rfl
   | some q=>exact .inr (fun e2=>by have:=(ho.lt q e).1;have:=qai e2;have:=h.base;omega))
def PtV (W:World) (u:Value) (p:Pt):Prop:=∃(B:Nat) (da:Option Addr) (dc:Nat),u=.agg #[.string p.name,.slice da p.dev.length dc,.int .i64 p.l0,.int .i64 p.l1,.int .i64 p.l2]/\IOwn W B (.slice da p.dev.length dc) p.dev
theorem one_any (ch:Nat) (L:List (List Int)) (ao:Option Addr) (b off c i n:Nat) (w:World) (hi:i<L.length) (hi12:i<12) (h1:1<=n) (h4:n<=4) (hl:L.length<=9223372036854775807) (hP:PRws w ao b off L) :
  Calls Tryz.prog 49 #[.agg #[.int .u8 (ch:Int),.slice ao L.length c],.int .i64 (i:Int),.int .i64 (n:Int)] w fun e w'=>∃u,e=.returned u/\PtV w' u (ptD n i (L.getD i []))/\Below w.heap.size w w':=by
 obtain⟨W2,hW2,N2⟩:=nw2 w #[.int .u8 (ch:Int),.slice ao L.length c] 24 #[.string ⟨#[]⟩,.slice none 0 0,.int .i64 0,.int .i64 0,.int .i64 0] 55;have K2:=N2.also (q:=fun W=>PRws W ao b off L) (hP.below N2.out.1);obtain rfl:=hP.addr (by omega);have hr:=fun j=>hP.rng i j
 obtain⟨zs,hzs⟩:∃zs,L.getD i []=zs:=⟨_,rfl⟩;rw [hzs] at hr ⊢;have HZs:=qH hzs;clear hP N2 hzs;go_enter Tryz.func49,Tryz.ntmps49;go_upto_region 1 with fail;rw [<-hW2];clear hW2;go_wp2_with fail;refine (rof_any i hi12 W2).mono ?_;rintro e w3 ⟨rfl,hb⟩;have K3:=K2.below hb;clear hb K2;obtain⟨W4,hW4,N4⟩:=nw1 w3 #[.string (nmD i),.slice none 0 0,.int .i64 0,.int .i64 0,.int .i64 0] 55;have hnm:=nm_eq i hi12;obtain⟨nm,hnme⟩:∃x,nmD i=x:=⟨_,rfl⟩;rw [hnme] at hnm hW4 N4;have hns:=qmt i hi12;have hadd:∀W,(Op.stringOp .add ⟨#[112]⟩ (num i)).run Tryz.prog W=.ok (.string nm) W:=fun W=>by
  rw [<-hnm];exact run_string_add_sum W _ _ (by have:(⟨#[112]⟩:ByteArray).size=1:=rfl;omega)
 obtain⟨ni,hni⟩:∃x,num i=x:=⟨_,rfl⟩;rw [hni] at hadd ⊢;clear hns hnm hni;go_upto_region 2 with fail;rw [<-hW4];clear hadd;have hNM:=qH hnme;clear hW4 hnme;have K4:=K3.below N4.out.1;have c1:=qC _ _ 1 _ _ _ K4.out.1.2.1;have z0:W4.cell? ⟨b,off+i*7,none⟩=_:=K4.out.2.cell i hi 0 (by decide);have z1:=K4.out.2.cell i hi 1 (by decide);have z2:=K4.out.2.cell i hi 2 (by decide);have z3:=K4.out.2.cell i hi 3 (by decide);have z4:=K4.out.2.cell i hi 4 (by decide);have z5:=K4.out.2.cell i hi 5 (by decide);have z6:=K4.out.2.cell i hi 6 (by decide);rw [HZs.out] at z0 z1 z2 z3 z4 z5 z6;obtain⟨y0,hy0⟩:∃y,zs.getD 0 0=y:=⟨_,rfl⟩;obtain⟨y1,hy1⟩:∃y,zs.getD 1 0=y:=⟨_,rfl⟩;obtain⟨y2,hy2⟩:∃y,zs.getD 2 0=y:=⟨_,rfl⟩;obtain⟨y3,hy3⟩:∃y,zs.getD 3 0=y:=⟨_,rfl⟩;obtain⟨y4,hy4⟩:∃y,zs.getD 4 0=y:=⟨_,rfl⟩;obtain⟨y5,hy5⟩:∃y,zs.getD 5 0=y:=⟨_,rfl⟩;obtain⟨y6,hy6⟩:∃y,zs.getD 6 0=y:=⟨_,rfl⟩;rw [hy0] at z0;rw [hy1] at z1;rw [hy2] at z2;rw [hy3] at z3;rw [hy4] at z4;rw [hy5] at z5;rw [hy6] at z6;have HY:=qH (qA (qA hy0 (qA hy1 (qA hy2 hy3))) (qA hy4 (qA hy5 hy6)));have HR:=qH hr;have hii:(i:Int)<(L.length:Int):=by omega
 clear hy0 hy1 hy2 hy3 hy4 hy5 hy6 hr;obtain⟨W5,hW5,N5⟩:=nw1 W4 #[.int .i16 y0,.int .i16 y1,.int .i16 y2,.int .i16 y3,.int .i16 y4,.int .i16 y5,.int .i16 y6] 201;have hs4:w3.heap.size<W4.heap.size:=(qG N4.out.2).1;have hs5:W4.heap.size<W5.heap.size:=(qG N5.out.2).1;have H0:Hid (PoSt w3 W5 W4.heap.size W5.heap.size nm #[.int .i16 y0,.int .i16 y1,.int .i16 y2,.int .i16 y3,.int .i16 y4,.int .i16 y5,.int .i16 y6] zs 0 (.slice none 0 0)):=qH
  ⟨N4.out.1.trans (N5.out.1.mono N4.out.1.size),zkeep N5.out.1 _ _ N4.out.2,N5.out.2,⟨hs4,hs5,qad _⟩,⟨rfl,.inl ⟨rfl,rfl⟩⟩⟩
 go_upto_region 3 with fail;rw [<-hW5];obtain⟨B,hB⟩:∃B,W5.heap.size=B:=⟨_,rfl⟩;obtain⟨g8,hg8⟩:∃g8,W4.heap.size=g8:=⟨_,rfl⟩;rw [hB,hg8] at H0;rw [hg8];clear hW5 hB hg8 hs4 hs5 N4 N5 K4 c1 z0 z1 z2 z3 z4 z5 z6 hii;go_wp2_with fail
 go_loopw [9] (fun x9 W=>∃k:Nat,x9=.int .i64 (k:Int)/\k<=n/\Hid (∃v,PoSt w3 W g8 B nm #[.int .i16 y0,.int .i16 y1,.int .i16 y2,.int .i16 y3,.int .i16 y4,.int .i16 y5,.int .i16 y6] zs k v)) (fun x9 _=>n-(RowKit.intOf x9).toNat)
 case atStart=>exact⟨0,rfl,qal _,qH ⟨_,H0.out⟩⟩
 case round =>
  obtain⟨k,rfl,hk,hS⟩:=hrel;obtain⟨v,hm⟩:=hS.out;have HM:=qH hm;clear hS
  by_cases hkn:k<n
  ·have hki:(k:Int)<(n:Int):=by omega
   obtain⟨z,hz⟩:∃z,zs.getD k 0=z:=⟨_,rfl⟩;have hzc:wr.cell? ⟨g8,k,none⟩=some (.int .i16 z):=by
    rcases (show k=0\/k=1\/k=2\/k=3 by omega) with rfl | rfl | rfl | rfl
    ·rw [<-hz,HY.out.1.1];exact qC _ _ 0 _ _ _ hm.zr
    ·rw [<-hz,HY.out.1.2.1];exact qC _ _ 1 _ _ _ hm.zr
    ·rw [<-hz,HY.out.1.2.2.1];exact qC _ _ 2 _ _ _ hm.zr
    ·rw [<-hz,HY.out.1.2.2.2];exact qC _ _ 3 _ _ _ hm.zr
   have hzr:=HR.out k;rw [hz] at hzr;have HZ:=qH hz;have hk7:(k:Int)<7:=by omega
   clear hz hm
   go_upto_if 30 with fail
   go_cut [10] (fun x10 W=>x10=.int .i64 (z.natAbs:Int)/\Hid (W=wr))
   case first =>
    by_cases hz0:z<0
    ·go_wp2;go_meet;exact⟨congrArg (Value.int .i64) (by omega),qH rfl⟩
    ·go_wp2;go_meet;exact⟨congrArg (Value.int .i64) (by omega),qH rfl⟩
   case rest =>
    obtain⟨rfl,hWe⟩:=hcut;have hWe:=hWe.out.symm;subst hWe;obtain⟨p,hp⟩:∃p,patD z=p:=⟨_,rfl⟩;have hpd:(z.natAbs:Int) % 9*1250=p:=by
     rw [<-hp];unfold patD;omega
    have hpr:=qmC z;rw [hp] at hpr;have HPD:=qH (qA hp hpd);obtain⟨x,hx⟩:∃x,z.natAbs=x:=⟨_,rfl⟩;rw [hx] at hpd ⊢;have hxr:x<=32768:=by omega
    have c1:=qC _ _ 1 _ _ _ HM.out.row;obtain⟨va,vc,hve⟩:=qdB HM.out.own (qgf _ _);subst hve;have HOw:=qH HM.out.own;have hbs:=HM.out.base.2.2;have hlk:(devD k zs).length<1000000:=by rw [qgf];omega
    clear hp hx hzc hzr
    go_wp2_with (first | (at_builtin;refine qfW rfl _ _ rfl HOw.out hbs rfl rfl rfl hlk ?_;intro v' w' ho' hk';(have hps:=HM.out.push (qbQ qB qN) (by rw [qlw,HZ.out,HPD.out.1];exact ho'.out) hk'.out);obtain⟨va',vc',hve'⟩:=qdB (m:=k+1) ho'.out (by rw [qae,qgf];rfl);subst hve';have b1:=hps.1.1;have f1:=hps.1.2;have HPS:=qH hps.2;clear hps) | fail)
    go_roundw
    case rel=>exact⟨k+1,by go_num,hkn,qH ⟨_,HPS.out⟩⟩
    case measure=>simp [RowKit.intOf];omega
  ·obtain rfl:k=n:=by omega
   have hki:¬(k:Int)<(k:Int):=by omega
   obtain⟨va,vc,hve⟩:=qdB hm.own (qgf _ _);subst hve;clear hm;have b4:=HR.out 4;rw [HY.out.2.1] at b4;have l4:=Int.lt_tmod_of_pos y4 (show (0:Int)<5000 by decide);have m4:=Int.tmod_lt_of_pos y4 (show (0:Int)<5000 by decide);have q4:=qC _ _ 4 _ _ _ HM.out.zr;have p2:=qC _ _ 2 _ _ _ HM.out.row;have r2:=qF _ _ 2 _ _ HM.out.row;obtain⟨Wa,hWa⟩:∃Wa,Wa=wr.setCell ⟨w3.heap.size,2,none⟩ (.int .i64 (5000+y4.tmod 5000)):=⟨_,rfl⟩;go_upto_region 11 with fail;rw [<-hWa];have hra:=heap_setCell_same _ w3.heap.size 2 _ _ (.int .i64 (5000+y4.tmod 5000)) HM.out.row;rw [<-hWa] at hra;have hza:Wa.heap[g8]? = _:=hWa▸(qW wr ⟨w3.heap.size,2,none⟩ _ _ (show g8≠w3.heap.size by have:=HM.out.base.1;omega)).trans HM.out.zr;have hga:wr.grownBy Wa (some w3.heap.size):=hWa▸frac.qbY wr w3.heap.size 2 _;have HA:=qH (qA hra (qA hza hga));clear hra hza hga hWa q4 p2 r2 l4 m4 b4;have b5:=HR.out 5;rw [HY.out.2.2.1] at b5;have l5:=Int.lt_tmod_of_pos y5 (show (0:Int)<12700 by decide);have m5:=Int.tmod_lt_of_pos y5 (show (0:Int)<12700 by decide);have q5:=qC _ _ 5 _ _ _ HA.out.2.1;have p3:=qC _ _ 3 _ _ _ HA.out.1;have r3:=qF _ _ 3 _ _ HA.out.1;obtain⟨Wb,hWb⟩:∃Wb,Wb=Wa.setCell ⟨w3.heap.size,3,none⟩ (.int .i64 (y5.tmod 12700)):=⟨_,rfl⟩;go_upto_region 12 with fail;rw [<-hWb];have hrb:=heap_setCell_same _ w3.heap.size 3 _ _ (.int .i64 (y5.tmod 12700)) HA.out.1;rw [<-hWb] at hrb;have hzb:Wb.heap[g8]? = _:=hWb▸(qW Wa ⟨w3.heap.size,3,none⟩ _ _ (show g8≠w3.heap.size by have:=HM.out.base.1;omega)).trans HA.out.2.1;have hgb:wr.grownBy Wb (some w3.heap.size):=qbS HA.out.2.2 (hWb▸frac.qbY Wa w3.heap.size 3 _);have HB:=qH (qA hrb (qA hzb hgb));clear hrb hzb hgb hWb q5 p3 r3 l5 m5 b5;have b6:=HR.out 6;rw [HY.out.2.2.2] at b6;have l6:=Int.lt_tmod_of_pos y6 (show (0:Int)<12700 by decide);have m6:=Int.tmod_lt_of_pos y6 (show (0:Int)<12700 by decide);have q6:=qC _ _ 6 _ _ _ HB.out.2.1;have p4:=qC _ _ 4 _ _ _ HB.out.1;have r4:=qF _ _ 4 _ _ HB.out.1;obtain⟨Wc,hWc⟩:∃Wc,Wc=Wb.setCell ⟨w3.heap.size,4,none⟩ (.int .i64 (y6.tmod 12700)):=⟨_,rfl⟩;go_upto_region 13 with fail;rw [<-hWc];have hrc:=heap_setCell_same _ w3.heap.size 4 _ _ (.int .i64 (y6.tmod 12700)) HB.out.1;rw [<-hWc] at hrc;have hrc:Wc.heap[w3.heap.size]? = some (.cells #[.string nm,.slice va k vc,.int .i64 (5000+y4.tmod 5000),.int .i64 (y5.tmod 12700),.int .i64 (y6.tmod 12700)] 55 (0,0)):=hrc;have hgc:wr.grownBy Wc (some w3.heap.size):=qbS HB.out.2.2 (hWc▸frac.qbY Wb w3.heap.size 4 _);clear hWc q6 p4 r4 l6 m6 b6;have hw3:w.heap.size+1<w3.heap.size:=(qG K3.out.1.2.2).1;have hbw:Below w3.heap.size w3 Wc:=HM.out.old.trans ⟨hgc.os,hgc.tape,hgc.output,hgc.size,fun q hq=>hgc.block q (qag hq HM.out.old.size) (fun e=>by have:=qai e;omega)⟩;have hrr:=zkeep hbw _ _ K3.out.1.2.2;have hown:IOwn Wc B (.slice va k vc) (devD k zs):=World.ownsRow.kept HM.out.own hgc (.inr (fun e=>by have:=(HM.out.own.lt _ e).1;have:=HM.out.base;omega));have HE:=qH (qA hrc (qA hrr (qA hown (K3.out.1.1.trans (hbw.mono K3.out.1.1.size)))));clear hrc hgc hw3 hbw hrr hown
   go_wp2_with (first | (with_reducible refine lW_ rfl 55 _ rfl (w3.heap.size) #[.string nm,.slice va k vc,.int .i64 (5000+y4.tmod 5000),.int .i64 (y5.tmod 12700),.int .i64 (y6.tmod 12700)] HE.out.1 Tryz.underlying55 5 ?_) | (with_reducible refine sR_ rfl 55 _ _ rfl (w.heap.size+1) #[.string nm,.slice va k vc,.int .i64 (5000+y4.tmod 5000),.int .i64 (y5.tmod 12700),.int .i64 (y6.tmod 12700)] HE.out.2.1 5 ?_))
   refine qR (v:=.agg #[.string nm,.slice va k vc,.int .i64 (5000+y4.tmod 5000),.int .i64 (y5.tmod 12700),.int .i64 (y6.tmod 12700)]) (rA_ rfl (w.heap.size+1) (qT _ _ _ _ _ _ HE.out.2.1) Tryz.underlying55 5) rfl ?_;refine⟨_,rfl,?_,qS HE.out.2.2.2 (Nat.le_succ _) _⟩;have hown2:IOwn (Wc.setRow (w.heap.size+1) #[.string nm,.slice va k vc,.int .i64 (5000+y4.tmod 5000),.int .i64 (y5.tmod 12700),.int .i64 (y6.tmod 12700)]) B (.slice va k vc) (devD k zs) :=
    World.ownsRow.kept HE.out.2.2.1 (qci _ _ _) (.inr (fun e=>by
     have h1:=(HE.out.2.2.1.lt _ e).1;have h2:w.heap.size+1<w3.heap.size:=(qG K3.out.1.2.2).1;have:=HM.out.base;omega))
   have e1:(ptD k i zs).dev.length=k:=qel _ _ _;refine⟨B,va,vc,?_,by rw [e1];exact hown2⟩;rw [e1]
   show _=Value.agg #[.string (nmD i),_,.int .i64 (5000+(zs.getD 4 0).tmod 5000),.int .i64 ((zs.getD 5 0).tmod 12700),.int .i64 ((zs.getD 6 0).tmod 12700)]
   rw [hNM.out,HY.out.2.1,HY.out.2.2.1,HY.out.2.2.2]
theorem infoPt:(Tryz.prog.info? 55).map (fun i=>(i.zero,i.size,i.bytes))=some (some (.agg #[.string ⟨#[]⟩,.slice none 0 0,.int .i64 0,.int .i64 0,.int .i64 0]),5,64):=by kernel_rfl
theorem qiY {w:World} {B:Nat} {v:Value} {n:Nat} {vs:List Value} {u0 u1 u2 u3 u4:Value} {g c:Nat} {t:TypeId} (ty:TypeId) (hown:w.ownsRow B 55 5 v n vs) (hB:B<=w.heap.size) (hg:w.heap[g]? = some (.cells #[u0,u1,u2,u3,u4] t (0,0))) (hu:∀u∈[u0,u1,u2,u3,u4],u.oneCell'=true) (hn:n<1000000) :
  ∃v' w',(Builtin.append_ #[30,30] ty #[v,.slice (some ⟨g,0,none⟩) 1 c]).run Tryz.prog w=.ok v' w'/\w'.ownsRow B 55 5 v' (n+1) (vs++[u0,u1,u2,u3,u4])/\(v'.ownBlock=v.ownBlock/\w.grownBy w' v.ownBlock\/v'.ownBlock=some w.heap.size/\w.grownBy w' none):=by
 obtain⟨i0,hi,hz0,hz1,hz2⟩:=info_parts infoPt;exact qdI (P:=Tryz.prog) w B 30 ty 55 i0 _ 5 64 Tryz.underlying30 hi hz0 hz1 hz2 rfl (by decide) v n vs hown ⟨g,0,none⟩ 1 c [u0,u1,u2,u3,u4] rfl (fun j x hj=>by
   rw [Addr.add_mid]
   match j,hj with
   | 0,hj=>exact (qC _ _ _ _ _ _ hg).trans hj
   | 1,hj=>exact (qC _ _ _ _ _ _ hg).trans hj
   | 2,hj=>exact (qC _ _ _ _ _ _ hg).trans hj
   | 3,hj=>exact (qC _ _ _ _ _ _ hg).trans hj
   | 4,hj=>exact (qC _ _ _ _ _ _ hg).trans hj
   | j+5,hj=>cases hj) hu (by decide) (by unfold maxLen;omega) (by omega) hB
def PaAt (W:World) (vs:List Value) (j:Nat) (p:Pt):Prop:=∃(B:Nat) (da:Option Addr) (dc:Nat),(vs[j*5]? = some (.string p.name)/\vs[j*5+1]? = some (.slice da p.dev.length dc)/\vs[j*5+2]? = some (.int .i64 p.l0)/\vs[j*5+3]? = some (.int .i64 p.l1)/\vs[j*5+4]? = some (.int .i64 p.l2))/\IOwn W B (.slice da p.dev.length dc) p.dev
def PaOwn (W:World) (B:Nat) (v:Value) (l:List Pt):Prop:=∃vs,W.ownsRow B 55 5 v l.length vs/\∀j,j<l.length->PaAt W vs j (l.getD j pt0)
theorem PaOwn.below {W W':World} {B:Nat} {v:Value} {l:List Pt} (h:PaOwn W B v l) (hb:Below W.heap.size W W'):PaOwn W' B v l:=by
 obtain⟨vs,h1,h2⟩:=h;refine⟨vs,own_below h1 hb,fun j hj=>?_⟩;obtain⟨B',da,dc,h3,h4⟩:=h2 j hj;exact⟨B',da,dc,h3,h4.below hb⟩
theorem PaOwn.nil (W:World) (B:Nat):PaOwn W B (.slice none 0 0) []:=⟨[],⟨rfl,.inl ⟨rfl,rfl⟩⟩,fun j hj=>absurd hj (by simp)⟩
theorem PaOwn.shape {W:World} {B m:Nat} {v:Value} {l:List Pt} (h:PaOwn W B v l) (hm:l.length=m):∃(ao:Option Addr) (cap:Nat),v=.slice ao m cap:=by
 obtain⟨vs,h1,_⟩:=h;subst hm;exact qdH h1
theorem PaOwn.cells {W:World} {B:Nat} {v:Value} {l:List Pt} (h:PaOwn W B v l) (h0:0<l.length) (hd:∀j,j<l.length->0<(l.getD j pt0).dev.length):∃g c,v=.slice (some ⟨g,0,none⟩) l.length c/\PCells W (some ⟨g,0,none⟩) g 0 l:=by
 obtain⟨vs,h1,h2⟩:=h;have hown:=h1;rcases h1.2 with ⟨_,h⟩ | ⟨g,cap,cur,rfl,_,_,_⟩
 ·omega
 ·refine⟨g,cap,rfl,fun _=>rfl,fun k hk=>?_⟩;obtain⟨B',da,dc,⟨e0,e1,e2,e3,e4⟩,ho⟩:=h2 k hk;obtain⟨ga,ca,e,hN⟩:=IOwn.cells ho (hd k hk);have c:∀j u,vs[j]? = some u->W.cell? ⟨g,0+j,none⟩=some u:=fun j u hj=>by
   have:=hown.cells (g:=g) rfl j u hj
   rwa [Addr.add_mid] at this
  exact⟨c _ _ e0,⟨_,ga,0,ca,by rw [<-e];exact c _ _ e1,hN⟩,c _ _ e2,c _ _ e3,c _ _ e4⟩
theorem PaOwn.push {W wA w':World} {B:Nat} {v v':Value} {l:List Pt} {p:Pt} {da:Option Addr} {dc Bd:Nat} (h:PaOwn W B v l) (hb:Below W.heap.size W wA) (hp:IOwn wA Bd (.slice da p.dev.length dc) p.dev)
  (ho:∀vs,wA.ownsRow B 55 5 v l.length vs->w'.ownsRow B 55 5 v' (l.length+1) (vs++[.string p.name,.slice da p.dev.length dc,.int .i64 p.l0,.int .i64 p.l1,.int .i64 p.l2])) (hk:v'.ownBlock=v.ownBlock/\wA.grownBy w' v.ownBlock\/v'.ownBlock=some wA.heap.size/\wA.grownBy w' none):PaOwn w' B v' (l++[p]):=by
 obtain⟨vs,h1,h2⟩:=h.below hb;refine⟨_,by rw [qae];exact ho vs h1,fun j hj=>?_⟩;have hvl:vs.length=l.length*5:=h1.1;rcases qaH j l.length with hjl | hjl
 ·obtain⟨B',d',c',⟨e0,e1,e2,e3,e4⟩,h4⟩:=h2 j hjl;have e:(l++[p]).getD j pt0=l.getD j pt0:=by rw [qaa,qas hjl,<-qaa]
  rw [e];refine⟨B',d',c',⟨?_,?_,?_,?_,?_⟩,(qek h4 (own_ne h4 h1 (by decide)) hk).1⟩
  ·rw [qas (by omega)];exact e0
  ·rw [qas (by omega)];exact e1
  ·rw [qas (by omega)];exact e2
  ·rw [qas (by omega)];exact e3
  ·rw [qas (by omega)];exact e4
 ·obtain rfl:j=l.length:=by rw [qae] at hj;have:j<l.length+1:=hj;omega
  have e:(l++[p]).getD l.length pt0=p:=by rw [qaa,qap qN,qaF];rfl
  rw [e];refine⟨Bd,da,dc,⟨?_,?_,?_,?_,?_⟩,(qek hp (own_ne hp h1 (by decide)) hk).1⟩
  all_goals
   rw [qap (by omega)];simp only [hvl,qaF,Nat.add_sub_cancel_left]
   rfl
def ptsK (n k:Nat) (L:List (List Int)):List Pt:=(List.range k).map fun i=>ptD n i (L.getD i [])
theorem qh0 (n k:Nat) (L:List (List Int)):(ptsK n k L).length=k:=by unfold ptsK;simp
theorem qmH (n k:Nat) (L:List (List Int)):ptsK n (k+1) L=ptsK n k L++[ptD n k (L.getD k [])]:=by unfold ptsK;rw [List.range_succ,qaW];rfl
theorem qi9 {ops:Array Oper} {rest:List Oper} {o:Oper} {a:Act} {w:World} {Q:Exit->Act->World->Prop} (hgd:o.guard=none) (s x:Operand)
  (ho:o.op=.call { callee:=.builtin .append,args:=#[s,x],argTypes:=#[30,30] }) {B:Nat} {v:Value} {l:List Pt} {p:Pt} {da:Option Addr} {dc Bd:Nat} (hown:PaOwn w B v l) (hp:IOwn w Bd (.slice da p.dev.length dc) p.dev) (hB:B<=w.heap.size) (hs:a.eval s=v) {g:Nat} (hx:a.eval x=.slice (some ⟨g,0,none⟩) 1 1) (hg:g=w.heap.size) (hn:l.length<1000000)
  {n0:ByteArray} {k:Nat} {z0 z1 z2:Int} (e0:n0=p.name) (e1:k=p.dev.length) (e2:z0=p.l0) (e3:z1=p.l1) (e4:z2=p.l2)
  (h:∀v' w',Hid (PaOwn w' B v' (l++[p]))->Hid (v'.ownBlock=v.ownBlock/\(w.alloc (.cells #[.string n0,.slice da k dc,.int .i64 z0,.int .i64 z1,.int .i64 z2] 55)).grownBy w' v.ownBlock\/v'.ownBlock=some (w.alloc (.cells #[.string n0,.slice da k dc,.int .i64 z0,.int .i64 z1,.int .i64 z2] 55)).heap.size/\(w.alloc (.cells #[.string n0,.slice da k dc,.int .i64 z0,.int .i64 z1,.int .i64 z2] 55)).grownBy w' none)->wpList Tryz.prog ops Q rest (a.put o.dst v') w') :
  wpList Tryz.prog ops Q (o :: rest) a (w.alloc (.cells #[.string n0,.slice da k dc,.int .i64 z0,.int .i64 z1,.int .i64 z2] 55)):=by
 subst hg e0 e1 e2 e3 e4;have hba:Below w.heap.size w (w.alloc (.cells #[.string p.name,.slice da p.dev.length dc,.int .i64 p.l0,.int .i64 p.l1,.int .i64 p.l2] 55)):=qbQ qB qN;obtain⟨vs0,hv0,_⟩:=hown.below hba;have hg:=qM w (.cells #[.string p.name,.slice da p.dev.length dc,.int .i64 p.l0,.int .i64 p.l1,.int .i64 p.l2] 55) _ rfl;have hone:∀u∈[Value.string p.name,.slice da p.dev.length dc,.int .i64 p.l0,.int .i64 p.l1,.int .i64 p.l2],u.oneCell'=true:=fun u hu=>by
  simp only [qaM,List.not_mem_nil,or_false] at hu;rcases hu with rfl | rfl | rfl | rfl | rfl <;> rfl
 have hBs:B<=(w.alloc (.cells #[.string p.name,.slice da p.dev.length dc,.int .i64 p.l0,.int .i64 p.l1,.int .i64 p.l2] 55)).heap.size:=by simp only [qab];omega
 obtain⟨v',w',hr,h1,h2⟩:=qiY o.type hv0 hBs hg hone hn (c:=1);refine qdp hgd s x _ ho hs hx hr (h v' w' (qH (PaOwn.push hown hba (hp.below hba) (fun vs hvs=>?_) h2)) (qH h2));obtain⟨v2,w2,hr2,h3,_⟩:=qiY o.type hvs hBs hg hone hn (c:=1);rw [hr2] at hr;cases hr;exact h3
theorem make_is (n:Nat) (hn:n<=1000) (w:World):(Instr.makeSlice 32 (.int .i64 (n:Int)) (.int .i64 (n:Int))).run Tryz.prog w=.ok (.slice (some ⟨w.heap.size,0,none⟩) n n) (w.alloc (.cells (madeCells #[.int .i64 0] n) 3)):=by
 obtain⟨i,hi,hz0,hz1,hz2⟩:=info_parts qlY;have h:=run_make (P:=Tryz.prog) w 32 3 i _ Tryz.underlying32 hi hz0 .i64 .i64 (n:Int) (n:Int) (by omega) (Int.le_refl _) (by rw [hz2];omega) (by omega);rw [hz1,Int.toNat_natCast,qbF] at h;exact h
theorem qnj {W:World} {g B n:Nat} (hg:W.heap[g]? = some (.cells (madeCells #[.int .i64 0] n) 3 (0,0))) (hB:B<=g) (hn:n<=1000):IOwn W B (.slice (some ⟨g,0,none⟩) n n) (List.replicate n 0):=by
 have e:(madeCells #[.int .i64 0] n).toList=(List.replicate n 0).map fun z=>Value.int .i64 z:=by
  rw [List.map_replicate,<-toList_madeCells_one]
 have hl:(List.replicate n (0:Int)).length=n:=qaO;unfold IOwn;rw [hl];refine⟨by simp,.inr ⟨g,n,_,rfl,hB,hg,qad _,by unfold maxLen;omega,by rw [<-Array.length_toList,e];simp,?_⟩⟩;rw [e,qbF];exact qak (by simp)
theorem qjC (ch:Nat) (L:List (List Int)) (ao:Option Addr) (b off c:Nat) (w:World) (hl:L.length<=9223372036854775807) (hP:PRws w ao b off L) :
  Calls Tryz.prog 12 #[.agg #[.int .u8 (ch:Int),.slice ao L.length c]] w fun e w'=>∃u,e=.returned u/\(∃B,w.heap.size<=B/\PaOwn w' B u (ptsD (1+ch % 4) L))/\Below w.heap.size w w':=by
 obtain⟨W1,hW1,N1⟩:=nw1 w #[.int .u8 (ch:Int),.slice ao L.length c] 24;have K1:=N1.also (q:=fun W=>PRws W ao b off L) (hP.below N1.out.1);have k0:=qC _ _ 0 _ _ _ N1.out.2;have hm2:(ch:Int) % 4=((ch % 4:Nat):Int):=by omega
 obtain⟨x,hx⟩:∃x,ch % 4=x:=⟨_,rfl⟩;have hx4:x<4:=by omega
 rw [hx];rw [hx] at hm2;have HL:=qH hl;clear N1 hP hx hl;go_enter Tryz.func12,Tryz.ntmps12;go_upto_region 1 with fail;rw [<-hW1];clear hW1;go_wp2_with fail;clear k0 hm2;obtain⟨n,hn⟩:∃n,1+x=n:=⟨_,rfl⟩;have hni:(1:Int)+(x:Int)=(n:Int):=by omega
 rw [hni];have HN:=qH (qA hn (show 1<=n/\n<=4 by omega));have H0:Hid (PaOwn W1 W1.heap.size (.slice none 0 0) (ptsK n 0 L)):=qH (PaOwn.nil _ _);clear hni hn hx4
 go_loopw [4,5] (fun x4 x5 W=>∃i:Nat,x5=.int .i64 (i:Int)/\i<=12/\i<=L.length/\Hid (PaOwn W W1.heap.size x4 (ptsK n i L))/\Hid (Below W1.heap.size W1 W)) (fun _ x5 _=>12-(RowKit.intOf x5).toNat)
 case atStart=>exact⟨0,rfl,qal _,qal _,H0,qH qB⟩
 case round =>
  obtain⟨i,rfl,hi12,hiL,hO,hB⟩:=hrel;have Kr:=K1.below hB.out;have HB:=hB;obtain⟨va,vc,hve⟩:=hO.out.shape (qh0 n i L);subst hve;have c1:=qC _ _ 1 _ _ _ Kr.out.1.2;clear hB
  by_cases hcond:i<L.length/\i<12
  ·obtain⟨hil,hi2⟩:=hcond;have hii:(i:Int)<(L.length:Int):=by omega
   have hii2:(i:Int)<12:=by omega
   have HP:=qH (one_any ch L ao b off c i n wr hil hi2 HN.out.2.1 HN.out.2.2 HL.out Kr.out.2)
   go_wp2_with ((with_reducible refine lW_ rfl 24 _ rfl (w.heap.size) #[.int .u8 (ch:Int),.slice ao L.length c] Kr.out.1.2 Tryz.underlying24 2 ?_))
   refine HP.out.mono ?_;rintro e w3 ⟨u,rfl,⟨Bd,da,dc,rfl,hdo⟩,hb3⟩;rw [qel] at hdo ⊢;have HD:=qH hdo;have HO3:=qH (hO.out.below hb3);have HB3:=qH (HB.out.trans (hb3.mono HB.out.size));have hBs:W1.heap.size<=w3.heap.size:=HB3.out.size;have hvq:∀q,(Value.slice va i vc).ownBlock=some q->W1.heap.size<=q:=fun q hq=>by obtain⟨vs,h1,_⟩:=hO.out;exact (h1.lt q hq).1
   have HQ:=qH hvq;have hlk:(ptsK n i L).length<1000000:=by rw [qh0];omega
   obtain⟨nm,l0,l1,l2,e0,e1,e2,e3⟩:∃nm l0 l1 l2,(ptD n i (L.getD i [])).name=nm/\(ptD n i (L.getD i [])).l0=l0/\(ptD n i (L.getD i [])).l1=l1/\(ptD n i (L.getD i [])).l2=l2:=⟨_,_,_,_,rfl,rfl,rfl,rfl⟩;rw [e0,e1,e2,e3];have HE:=qH (qA e0 (qA e1 (qA e2 e3)));clear hdo hb3 e0 e1 e2 e3 HP c1 Kr hO HB hvq
   go_wp2_with (first | (at_builtin;refine qi9 rfl _ _ rfl (p:=ptD n i (L.getD i [])) (Bd:=Bd) HO3.out (by rw [qel];exact HD.out) hBs rfl rfl rfl hlk HE.out.1.symm (qel _ _ _).symm HE.out.2.1.symm HE.out.2.2.1.symm HE.out.2.2.2.symm ?_;intro v' w' ho' hk';obtain⟨va',vc',hve'⟩:=(Hid.out ho').shape (m:=i+1) (by rw [qae,qh0];rfl);subst hve';have HB4:Hid (Below W1.heap.size W1 w'):=qH (qdA (B:=W1.heap.size) (qbQ HB3.out qN) HQ.out (by simp only [qab];omega) hk'.out);clear hk') | fail)
   go_roundw
   case rel=>exact⟨i+1,by go_num,by omega,hil,by rw [qmH];exact ho',HB4⟩
   case measure=>simp [RowKit.intOf];omega
  ·by_cases hL0:L.length=0
   ·obtain rfl:i=0:=by omega
    have hii:¬(0:Int)<(L.length:Int):=by omega
    have e:ptsD n L=[ptE n]:=by unfold ptsD;rw [if_pos hL0]
    have hmk:=fun W=>make_is n (by have:=HN.out.2;omega) W
    obtain⟨W7,hW7,N7⟩:=nw1 wr (madeCells #[.int .i64 0] n) 3;obtain⟨W8,hW8,N8⟩:=nw1 W7 #[.string ⟨#[112]⟩,.slice (some ⟨wr.heap.size,0,none⟩) n n,.int .i64 0,.int .i64 0,.int .i64 0] 55;have hz7:=zkeep N8.out.1 _ _ N7.out.2;have ho:=qnj hz7 (B:=wr.heap.size) qN (by have:=HN.out.2;omega);have hs7:W7.heap.size=wr.heap.size+1:=by rw [hW7];simp
    have hpo:PaOwn W8 W1.heap.size (.slice (some ⟨W7.heap.size,0,none⟩) 1 1) (ptsD n L):=by
     rw [e];refine⟨[.string ⟨#[112]⟩,.slice (some ⟨wr.heap.size,0,none⟩) n n,.int .i64 0,.int .i64 0,.int .i64 0],⟨rfl,.inr ⟨W7.heap.size,1,_,rfl,qaj HB.out.size N7.out.1.size,N8.out.2,qad _,by decide,rfl,rfl⟩⟩,fun j hj=>?_⟩;obtain rfl:j=0:=by have:j<1:=hj;omega
     have hl:(ptE n).dev.length=n:=qaO;exact⟨wr.heap.size,some ⟨wr.heap.size,0,none⟩,n,⟨rfl,by show _=some (Value.slice _ (ptE n).dev.length n);rw [hl];rfl,rfl,rfl,rfl⟩,by show IOwn W8 _ (.slice _ (ptE n).dev.length n) (ptE n).dev;rw [hl];exact ho⟩
    rw [hs7] at hpo;have HF:=qH (qA hpo (K1.out.1.1.trans ((HB.out.trans ((N7.out.1.trans (N8.out.1.mono N7.out.1.size)).mono HB.out.size)).mono K1.out.1.1.size)));have HW:=qH (show w.heap.size<=W1.heap.size from K1.out.1.1.size);rw [hW7] at hW8;clear N7 N8 hz7 ho hs7 hpo e Kr hO HB hcond hW7;go_wp2_with fail;rw [<-hW8];clear hW8;go_ret;exact⟨_,rfl,⟨W1.heap.size,HW.out,by rw [HN.out.1];exact HF.out.1⟩,HF.out.2⟩
   ·have hmin:i=min L.length 12:=by omega
    have e:ptsK n i L=ptsD n L:=by unfold ptsD ptsK;rw [if_neg hL0,hmin]
    have hi0:¬(i:Int)=0:=by omega
    have hib:((i:Int) == 0)=false:=by rw [beq_eq_false_iff_ne];exact hi0
    rw [e] at hO;have HF:=qH (qA hO.out (K1.out.1.1.trans (HB.out.mono K1.out.1.1.size)));have HW:=qH (show w.heap.size<=W1.heap.size from K1.out.1.1.size)
    by_cases hil:i<L.length
    ·have hii:(i:Int)<(L.length:Int):=by omega
     have hi2:¬(i:Int)<12:=by omega
     clear e hmin Kr hO HB hcond;go_wp2;go_ret;exact⟨_,rfl,⟨W1.heap.size,HW.out,by rw [HN.out.1];exact HF.out.1⟩,HF.out.2⟩
    ·have hii:¬(i:Int)<(L.length:Int):=by omega
     clear e hmin Kr hO HB hcond;go_wp2;go_ret;exact⟨_,rfl,⟨W1.heap.size,HW.out,by rw [HN.out.1];exact HF.out.1⟩,HF.out.2⟩
def wtz (G:List Int) (i:Nat):Int:=if G.length=0 then 1 else G.getD (i % G.length) 0
def wts (G:List Int) (m:Nat):List Int:=(List.range m).map (wtz G)
theorem qhf (G:List Int) (m:Nat):(wts G m).length=m:=by unfold wts;simp
theorem wts_succ (G:List Int) (m:Nat):wts G (m+1)=wts G m++[wtz G m]:=by unfold wts;rw [List.range_succ,qaW];rfl
theorem wtz_le {G:List Int} (h:∀k,0<=G.getD k 0/\G.getD k 0<65536) (i:Nat):0<=wtz G i/\wtz G i<65536:=by
 unfold wtz;split
 ·decide
 ·exact h _
theorem qjL (pa ga:Option Addr) (m pc gb go gc:Nat) (G:List Int) (w:World) (hm:m<=1000) (hl:G.length<=9223372036854775807) (hG:KCells w .u16 ga gb go G) (hwf:∀k,0<=G.getD k 0/\G.getD k 0<65536) :
  Calls Tryz.prog 13 #[.slice pa m pc,.slice ga G.length gc,.int .i8 0] w fun e w'=>∃u,e=.returned u/\IOwn w' w.heap.size u (wts G m)/\Below w.heap.size w w':=by
 have H0:=qH (qA hG (qA hl hwf));have HO:Hid (IOwn w w.heap.size (.slice none 0 0) (wts G 0)):=qH ⟨rfl,.inl ⟨rfl,rfl⟩⟩;have hmx:max ((m:Int)+0) 0=(m:Int):=by omega
 clear hG hl hwf;go_enter Tryz.func13,Tryz.ntmps13;go_wp2_with fail;clear hmx
 go_loopw [7,17] (fun x7 x17 W=>∃i:Nat,x17=.int .i64 (i:Int)/\i<=m/\Hid (IOwn W w.heap.size x7 (wts G i))/\Hid (Below w.heap.size w W)) (fun _ x17 _=>m-(RowKit.intOf x17).toNat)
 case atStart=>exact⟨0,rfl,qal _,HO,qH qB⟩
 case round =>
  obtain⟨i,rfl,hi,hO,hB⟩:=hrel;obtain⟨va,vc,hve⟩:=qdB hO.out (qhf G i);subst hve
  by_cases him:i<m
  ·have hii:(i:Int)<(m:Int):=by omega
   go_upto_if 22 with fail
   go_cut [9] (fun x9 W=>x9=.int .i64 (wtz G i)/\Hid (W=wr))
   case first =>
    by_cases hG0:G.length=0
    ·have e:wtz G i=1:=by unfold wtz;rw [if_pos hG0]
     have hg:¬(G.length:Int) > 0:=by omega
     clear hG0;go_wp2;go_meet;exact⟨congrArg (Value.int .i64) e.symm,qH rfl⟩
    ·have hg:(G.length:Int) > 0:=by omega
     have e:wtz G i=G.getD (i % G.length) 0:=by unfold wtz;rw [if_neg hG0]
     have hq:=qbp i (show G.length > 0 by omega);have hmt:(i:Int) % (G.length:Int)=((i % G.length:Nat):Int):=by rw [Int.natCast_emod]
     have hmt2:(i:Int).tmod (G.length:Int)=((i % G.length:Nat):Int):=by rw [Int.tmod_eq_emod_of_nonneg (by omega)];exact hmt
     obtain⟨q,hqe⟩:∃q,i % G.length=q:=⟨_,rfl⟩;rw [hqe] at e hq hmt hmt2;have hc:=(H0.out.1.below hB.out).cell q hq;have hr:=H0.out.2.2 q;obtain rfl:=H0.out.1.addr (by omega);obtain⟨z,hz⟩:∃z,G.getD q 0=z:=⟨_,rfl⟩;rw [hz] at e hc hr;have hqi:(q:Int)<(G.length:Int):=by omega
     have hll:=H0.out.2.1;clear hqe hz;go_wp2;go_meet;exact⟨congrArg (Value.int .i64) e.symm,qH rfl⟩
   case rest =>
    obtain⟨rfl,hWe⟩:=hcut;have hWe:=hWe.out.symm;subst hWe;obtain⟨z,hz⟩:∃z,wtz G i=z:=⟨_,rfl⟩;have HZ:=qH hz;rw [hz];have hbs:=hB.out.size;have hlk:(wts G i).length<1000000:=by rw [qhf];omega
    have hvq:Hid (∀q,(Value.slice va i vc).ownBlock=some q->w.heap.size<=q):=qH fun q hq=>(hO.out.lt q hq).1
    clear hz
    go_wp2_with (first | (at_builtin;refine qfW rfl _ _ rfl hO.out hbs rfl rfl rfl hlk ?_;intro v' w' ho' hk';obtain⟨va',vc',hve'⟩:=qdB (m:=i+1) (Hid.out ho') (by rw [qae,qhf];rfl);subst hve';have HB4:Hid (Below w.heap.size w w'):=qH (qdA (B:=w.heap.size) (qbQ hB.out qN) hvq.out (by simp only [qab];omega) hk'.out);clear hk') | fail)
    go_roundw
    case rel=>exact⟨i+1,by go_num,him,by rw [wts_succ,HZ.out];exact ho',HB4⟩
    case measure=>simp [RowKit.intOf];omega
  ·obtain rfl:i=m:=by omega
   have hii:¬(i:Int)<(i:Int):=by omega
   go_wp2;go_ret;exact⟨_,rfl,hO.out,hB.out⟩
theorem addq {p q:Rat} (sp:Short p) (sq:Short q) (sz:Short (p+q)) (w:World) (hT:HasT w) :
  Calls Tryz.prog 27 #[.agg #[.string (ftxt p).1,.string (ftxt p).2],.agg #[.string (ftxt q).1,.string (ftxt q).2]] w fun e w'=>e=.returned (.tuple #[.agg #[.string (ftxt (p+q)).1,.string (ftxt (p+q)).2],.int .i64 0])/\Below w.heap.size w w':=by
 refine (fadd_any _ _ _ _ w hT).mono ?_;rintro e w' ⟨⟨_,h⟩ | ⟨h,_⟩,hb⟩
 ·rw [qc3,qc3] at h;rcases h with ⟨_,h⟩ | ⟨h,_⟩
  ·exact⟨h,hb⟩
  ·exact absurd sz h
 ·exact absurd ⟨qdz sp,qdz sq⟩ h
def eOne (z:Int):Rat:=(z:Rat) / ((1:Int):Rat)
theorem eOne_cd (z:Int):Cd (eOne z) 1 z.natAbs:=⟨z,rfl,qad _⟩
theorem eOne_eq (z:Int):eOne z=(z:Rat):=by unfold eOne;rw [show ((1:Int):Rat)=1 from rfl];grind
def rr (l:List Pt) (k:Nat) (x:Nat->Nat->Rat) (c i:Nat):Rat:=sumQ (many k (chans l)) (fun j=>tqf l k i j*x c j)-labq l c i
theorem resq_eq {l:List Pt} {k i c:Nat} {x:Nat->Nat->Rat} (h:PtsOk l) (hi:i<l.length) (hc:c<3):resq (mdq k (chans l) (many k (chans l)) x) (l.getD i pt0) k c=rr l k x c i:=by
 unfold resq rr;rw [(h.rows i hi).2,qe7 hc];have e:(sumQ (many k (chans l)) fun j=>termQ k (l.getD i pt0).dev j*lval (told (many k (chans l)) (x c)) j)=sumQ (many k (chans l)) fun j=>tqf l k i j*x c j:=qbU fun j hj=>by rw [qcT hj];rfl
 rw [e];unfold labq;rw [Rat.intCast_neg,show ((100:Int):Rat)=100 from rfl];generalize (sumQ (many k (chans l)) fun j=>tqf l k i j*x c j)=S;generalize (((l.getD i pt0).lab c:Int):Rat)=z
 grind
theorem fit_orth {l:List Pt} {k c t:Nat} {ws:List Int} {x:Nat->Nat->Rat} (hx:FitX l k ws c (x c)) (ht:t<many k (chans l)):sumQ l.length (fun i=>tqf l k i t*rr l k x c i*wq ws i)=0:=by
 have h:=hx t ht;obtain⟨M,hM⟩:∃M,many k (chans l)=M:=⟨_,rfl⟩;have hr:∀i,rr l k x c i=sumQ M (fun j=>tqf l k i j*x c j)-labq l c i:=fun i=>by unfold rr;rw [hM]
 rw [hM] at h ht;have hn:∀j,j<M->nq l k ws c t j=sumQ l.length fun i=>wq ws i*(tqf l k i t*tqf l k i j):=fun j hj=>by
  unfold nq normR;rw [hM];exact qbU fun i _=>by unfold gR;rw [if_pos ht,if_pos hj]
 have hn2:nq l k ws c t M=sumQ l.length fun i=>wq ws i*(tqf l k i t*labq l c i):=by
  unfold nq normR;rw [hM];exact qbU fun i _=>by unfold gR;rw [if_pos ht,if_neg (qbz _)]
 have e1:sumQ M (fun j=>nq l k ws c t j*x c j)=sumQ l.length fun i=>wq ws i*tqf l k i t*sumQ M fun j=>tqf l k i j*x c j:=by
  rw [qbU fun j hj=>show nq l k ws c t j*x c j=sumQ l.length fun i=>wq ws i*tqf l k i t*(tqf l k i j*x c j) by
   rw [hn j hj,show (sumQ l.length fun i=>wq ws i*(tqf l k i t*tqf l k i j))*x c j=x c j*sumQ l.length fun i=>wq ws i*(tqf l k i t*tqf l k i j) from Rat.mul_comm _ _,<-qcc];exact qbU fun i _=>by grind]
  rw [<-qd5];exact qbU fun i _=>qcc _ _ _
 have h2:(sumQ l.length fun i=>wq ws i*tqf l k i t*sumQ M fun j=>tqf l k i j*x c j)=sumQ l.length fun i=>wq ws i*(tqf l k i t*labq l c i):=by rw [<-e1,<-hn2];exact h
 have e3:sumQ l.length (fun i=>tqf l k i t*rr l k x c i*wq ws i)=sumQ l.length fun i=>(wq ws i*tqf l k i t*sumQ M fun j=>tqf l k i j*x c j)-wq ws i*(tqf l k i t*labq l c i):=qbU fun i _=>by
  rw [hr i];generalize (sumQ M fun j=>tqf l k i j*x c j)=S
  grind
 rw [e3,sumQ_sub,h2]
 grind
def RN:Nat:=10*(512*PB)*100+12800*(512*QB)
theorem rr_cd {l:List Pt} (h:PtsOk l) (h8:qe2 l) {k:Nat} (hk:1<=k/\k<=3) (h3:¬(k=3/\chans l=4)) {x:Nat->Nat->Rat} {D:Nat} (hD0:D≠0) (hD:D<=QB) (hx:∀c,c<3->∀i,i<many k (chans l)->Cd (x c i) D PB) {c i:Nat} (hc:c<3) (hi:i<l.length):Cd (rr l k x c i) (512*D*100) RN:=by
 have hM:many k (chans l)<=10:=(qe6 (kind:=k) ⟨rfl,hk⟩ h.n1 h.n4 h3).2;have h1:Cd (sumQ (many k (chans l)) (fun j=>tqf l k i j*x c j)) (512*D) (many k (chans l)*(512*PB)):=Cd.sum fun j hj=>(h.term_cd h8 hk h3 hi j).mul (hx c hc j hj) (by decide) hD0
 have h2:=(h1.mono (qaR _ hM)).up 100 (qbK (by decide) hD0) (by decide);have h4:=(h.lab_cd c hi).up (512*D) (by decide) (qbK (by decide) hD0);rw [qaw 100] at h4;unfold rr RN;exact (h2.sub h4).mono (Nat.add_le_add_left (qaJ _ (qaJ _ hD)) _)
def sy1 (l:List Pt) (k:Nat) (x:Nat->Nat->Rat) (t c i:Nat):Rat:=tqf l k i t*rr l k x c i
def sy2 (l:List Pt) (k:Nat) (ws:List Int) (x:Nat->Nat->Rat) (t c i:Nat):Rat:=sy1 l k x t c i*eOne (ws.getD i 0)
def sps (l:List Pt) (k:Nat) (ws:List Int) (x:Nat->Nat->Rat) (t c p:Nat):Rat:=sumQ p (sy2 l k ws x t c)
theorem sps_succ (l:List Pt) (k:Nat) (ws:List Int) (x:Nat->Nat->Rat) (t c p:Nat):sps l k ws x t c (p+1)=sps l k ws x t c p+sy2 l k ws x t c p:=rfl
theorem rn_600:12*(512*RN*9)<10 ^ 600/\512*(512*QB*100)<10 ^ 600/\RN<10 ^ 600/\512*RN<10 ^ 600/\512*RN*9<10 ^ 600/\512*QB*100<10 ^ 600:=by decide +kernel
structure SumLaw (l:List Pt) (k:Nat) (ws:List Int) (x:Nat->Nat->Rat):Prop where
 res:∀c i,c<3->i<l.length->Short (rr l k x c i)
 term:∀i t,i<l.length->Short (tqf l k i t)
 one:∀i,i<l.length->Short (eOne (ws.getD i 0))
 y1:∀t c i,c<3->i<l.length->Short (sy1 l k x t c i)
 y2:∀t c i,c<3->i<l.length->Short (sy2 l k ws x t c i)
 ps:∀t c p,c<3->p<=l.length->Short (sps l k ws x t c p)
 zero:∀t c,c<3->t<many k (chans l)->sps l k ws x t c l.length=0
theorem sum_law {l:List Pt} (h:PtsOk l) (h8:qe2 l) {k:Nat} (hk:1<=k/\k<=3) (h3:¬(k=3/\chans l=4)) {ws:List Int} (hw:W9 ws l.length) {x:Nat->Nat->Rat} (hs:¬Sing (many k (chans l)) (nq l k ws 0)) (hx:∀c,c<3->FitX l k ws c (x c)):SumLaw l k ws x:=by
 obtain⟨D,hD0,hD,hc⟩:=qlL h h8 hk h3 hw hs hx;obtain⟨n1,n2,n3,n4,n5,n6⟩:=rn_600;have hDm:512*D*100<=512*QB*100:=qaR _ (qaJ _ hD);have hD1:512*D*100≠0:=qbK (qbK (by decide) hD0) (by decide);have hD2:512*(512*D*100)<=512*(512*QB*100):=qaJ _ hDm;have hD3:512*(512*D*100)≠0:=qbK (by decide) hD1;have hr:=fun c i (hc3:c<3) (hi:i<l.length)=>rr_cd h h8 hk h3 hD0 hD hc hc3 hi
 have ht:=fun i t (hi:i<l.length)=>h.term_cd h8 hk h3 hi t
 have hone:∀i,i<l.length->Cd (eOne (ws.getD i 0)) 1 9:=fun i hi=>(eOne_cd _).mono (by have:=hw i hi;omega)
 have h1:=fun t c i (hc3:c<3) (hi:i<l.length)=>(ht i t hi).mul (hr c i hc3 hi) (by decide) hD1
 have h2:=fun t c i (hc3:c<3) (hi:i<l.length)=>(h1 t c i hc3 hi).mul (hone i hi) hD3 (by decide)
 refine⟨fun c i hc3 hi=>(hr c i hc3 hi).short hD1 n3 (by omega),fun i t hi=>(ht i t hi).short (by decide) (by decide +kernel) (by decide +kernel),fun i hi=>(hone i hi).short (by decide) (by decide +kernel) (by decide +kernel),
  fun t c i hc3 hi=>(h1 t c i hc3 hi).short hD3 n4 (by omega),fun t c i hc3 hi=>(h2 t c i hc3 hi).short (by omega) n5 (by omega),fun t c p hc3 hp=>?_,fun t c hc3 htM=>?_⟩
 ·have h12:=h8.1;have:=Cd.sum (n:=p) (f:=sy2 l k ws x t c) fun i hi=>h2 t c i hc3 (by omega)
  exact (this.mono (show p*(512*RN*9)<=12*(512*RN*9) from qaR _ (by omega))).short (by omega) n1 (by omega)
 ·unfold sps;rw [<-fit_orth (hx c hc3) htM];exact qbU fun i _=>by unfold sy2 sy1;rw [eOne_eq];rfl
theorem qkK {l:List Pt} (h:PtsOk l) (h8:qe2 l) {k:Nat} (hk:1<=k/\k<=3) (h3:¬(k=3/\chans l=4)) {ws:List Int} (hw:W9 ws l.length) {c:Nat} (hc:c<3) {x:Nat->Rat} (hs:¬Sing (many k (chans l)) (nq l k ws 0)) (hx:FitX l k ws c x):qbX (many k (chans l)) x:=by
 obtain⟨n,hn⟩:∃n,many k (chans l)=n:=⟨_,rfl⟩;have hn10:n<=10:=by rw [<-hn];exact (qe6 (kind:=k) ⟨rfl,hk⟩ h.n1 h.n4 h3).2
 have hE:∀r j,∃a:Int,r<n->fitE l k ws r (if j<n then j else n+c)=(a:Rat) / (fitS:Rat)/\a.natAbs<=fitB:=fun r j=>by
  by_cases hr:r<n
  ·obtain⟨a,e,ha⟩:=qlJ h h8 hk h3 hw (c:=if j<n then j else n+c) (by rw [hn];exact hr);exact⟨a,fun _=>⟨e,ha⟩⟩
  ·exact⟨0,fun h=>absurd h hr⟩
 obtain⟨A,hA⟩:∃A:Nat->Nat->Int,∀r j,r<n->fitE l k ws r (if j<n then j else n+c)=(A r j:Rat) / (fitS:Rat)/\(A r j).natAbs<=fitB:=⟨fun r j=>(hE r j).choose,fun r j=>(hE r j).choose_spec⟩;have hS:(fitS:Rat)≠0:=qeh (by decide);have hcast:∀r j,r<n->castM A r j=(fitS:Rat)*fitE l k ws r (if j<n then j else n+c):=fun r j hr=>by
  rw [(hA r j hr).1]
  show (A r j:Rat)=_
  generalize (fitS:Rat)=S at *
  grind
 have hl:∀r j,r<n->j<n->castM A r j=(fitS:Rat)*nq l k ws 0 r j:=fun r j hr hj=>by
  rw [hcast r j hr,if_pos hj];unfold fitE;rw [hn,if_pos hj]
 have hsA:¬Sing n (castM A):=fun hsg=>hs (by
  rw [hn];obtain⟨y,hy,h0⟩:=hsg;refine⟨y,hy,fun i hi=>?_⟩;have:=h0 i hi;rw [qbU fun j hj=>show castM A i j*y j=(fitS:Rat)*(nq l k ws 0 i j*y j) by rw [hl i j hi hj,Rat.mul_assoc],qcc] at this;rcases Rat.mul_eq_zero.1 this with e | e
  ·exact absurd e hS
  ·exact e)
 obtain⟨q,p,hq,hqB,hp⟩:=qiZ (R:=n) (m:=1) (B:=fitB) (A:=A) (x:=fun _=>x) (by decide) (fun i j hi _=>(hA i j hi).2) hsA fun c' hc' i hi=>by
  obtain rfl:c'=0:=by omega
  have hx:=hx i (by rw [hn];exact hi);rw [hn] at hx;rw [qbU fun j hj=>show castM A i j*x j=(fitS:Rat)*(nq l k ws c i j*x j) by rw [hl i j hi hj,qmm (c:=0) (c':=c) (by rw [hn];exact hi) (by rw [hn];exact hj),Rat.mul_assoc],qcc,hx]
  show (fitS:Rat)*nq l k ws c i n=castM A i (n+0)
  rw [hcast i (n+0) hi,if_neg (by omega)];unfold fitE;rw [hn,if_neg (by omega),Nat.add_sub_cancel_left]
 intro i hi;rw [hn] at hi;obtain⟨e,hb⟩:=hp 0 (by decide) i hi;have hb:(p 0 i).natAbs<=PB:=qaj hb (qeJ (by omega));have hq2:q.natAbs<=QB:=qaj hqB (qeJ hn10);exact qdi (N:=PB+QB) (qga hq (by omega) (by omega) e) (by have h3:PB+QB<10 ^ 600:=(by decide +kernel);exact h3)
theorem IOwn.set {W:World} {B:Nat} {ao:Option Addr} {n c:Nat} {l:List Int} (h:IOwn W B (.slice ao n c) l) {i:Nat} (hi:i<l.length) (z:Int):∃g,ao=some ⟨g,0,none⟩/\B<=g/\(W.cell? ⟨g,i,none⟩=some (.int .i64 (l.getD i 0))/\W.frozen? ⟨g,i,none⟩=false)/\IOwn (W.setCell ⟨g,i,none⟩ (.int .i64 z)) B (.slice ao n c) (l.set i z):=by
 have hown:=h;rcases h.2 with ⟨_,h0⟩ | ⟨g,cap,cur,e,hB,hg,hn,hm,hsz,htk⟩
 ·omega
 ·injection e with e1 e2 e3;subst e1 e3;have hc:=World.ownsRow.cells (g:=g) hown rfl i (.int .i64 (l.getD i 0)) (by rw [qaB,qaf hi,qaa,qaf hi];rfl);rw [Addr.add_mid,qaI] at hc;refine⟨g,rfl,hB,⟨hc,qF _ _ _ _ _ hg⟩,by simp,.inr ⟨g,c,_,by rw [qa6,e2],hB,heap_setCell_same _ g i _ _ (.int .i64 z) hg,by rw [qa6];exact hn,hm,by rw [Array.size_setIfInBounds];exact hsz,?_⟩⟩;rw [qa6,Array.toList_setIfInBounds,List.take_set,htk,List.map_set]
structure OwK (w0 W:World):Prop where
 kb:Below w0.heap.size w0 W
 kt:HasT W
 ke:HasE W
theorem OwK.below {w0 W W':World} (h:OwK w0 W) (hb:Below W.heap.size W W'):OwK w0 W':=⟨h.kb.trans (hb.mono h.kb.size),h.kt.below hb,h.ke.below hb⟩
theorem qnf (w0:World) (hT:HasT w0) (hE:HasE w0):Calls Tryz.prog 11 #[] w0 fun e w'=>e=.returned (.bool true)/\Below w0.heap.size w0 w':=by
 have KO:OwK w0 w0:=⟨Below.refl _ _,hT,hE⟩;clear hT hE;go_enter Tryz.func11,Tryz.ntmps11;go_wp2_with fail;refine (qiB _ [⟨#[49]⟩,⟨#[49,47,50]⟩,⟨#[49]⟩,⟨#[49,47,50]⟩] 4 rfl).mono ?_;rintro e w1 ⟨bI1,rfl,hi,hb⟩;have I1:=qH hi;replace KO:=KO.below hb;clear hb hi;go_wp2_with fail;refine (ex_tm1 _ KO.kt).mono ?_;rintro e w2 ⟨pF1,gF1,cF1,rfl,hf,hb⟩;have F1:=qH hf;replace KO:=KO.below hb;replace I1:=qH (I1.out.below hb);clear hb hf;go_wp2_with fail;refine (qfL (L:=[⟨#[49]⟩,⟨#[49,47,50]⟩,⟨#[49]⟩,⟨#[49,47,50]⟩]) (l:=[(1:Rat),1 / 2,1,1 / 2]) I1.out rfl rfl (by decide) (by simp only [qbx,qbJ,ft_1,ft_12];decide +kernel) (by decide) F1.out).mono ?_;rintro e w3 ⟨rfl,hb⟩;replace KO:=KO.below hb;replace I1:=qH (I1.out.below hb);replace F1:=qH (F1.out.below hb);clear hb I1 F1;go_wp2_with fail;refine (qiB _ [⟨#[49]⟩,⟨#[49,47,50]⟩,⟨#[49,47,52]⟩] 3 rfl).mono ?_;rintro e w4 ⟨bI2,rfl,hi,hb⟩;have I2:=qH hi;replace KO:=KO.below hb;clear hb hi;go_wp2_with fail;refine (ex_tm2 _ KO.kt).mono ?_;rintro e w5 ⟨pF2,gF2,cF2,rfl,hf,hb⟩;have F2:=qH hf;replace KO:=KO.below hb;replace I2:=qH (I2.out.below hb);clear hb hf;go_wp2_with fail;refine (qfL (L:=[⟨#[49]⟩,⟨#[49,47,50]⟩,⟨#[49,47,52]⟩]) (l:=[(1:Rat),1 / 2,1 / 4]) I2.out rfl rfl (by decide) (by simp only [qbx,qbJ,ft_1,ft_12,ft_14];decide +kernel) (by decide) F2.out).mono ?_;rintro e w6 ⟨rfl,hb⟩;replace KO:=KO.below hb;replace I2:=qH (I2.out.below hb);replace F2:=qH (F2.out.below hb);clear hb I2 F2;go_wp2_with fail;refine (none_any 2 _).mono ?_;rintro e w7 ⟨bI3,rfl,hb,hi⟩;have I3:=qH hi;replace KO:=KO.below hb;clear hb hi;go_wp2_with fail;refine (ex_tm3 _ KO.kt).mono ?_;rintro e w8 ⟨rfl,hb⟩;replace KO:=KO.below hb;replace I3:=qH (zkeep hb _ _ I3.out);clear hb;go_wp2_with fail;refine (qmk 2 _ _ I3.out).mono ?_;rintro e w9 ⟨rfl,hw⟩;subst hw;clear I3;go_wp2_with fail;refine (qgq _).mono ?_;rintro e w10 ⟨gP,rfl,hp,hb⟩;have P1:=qH hp;replace KO:=KO.below hb;clear hb hp;go_wp2_with fail;refine (ex_f1 _ gP 3 P1.out KO.kt).mono ?_;rintro e w11 ⟨v1,rfl,hm,hb⟩;have M1:=qH hm;replace KO:=KO.below hb;replace P1:=qH (P1.out.below hb);clear hb hm P1;obtain⟨a0,a1,a2,b0,o0,c0,b1,o1,c1,b2,o2,c2,rfl,hx0,hx1,hx2⟩:=M1.out.lit;clear hx0 hx1 hx2;obtain⟨Vm,hVm,Nm⟩:=nw1 w11 #[.int .i64 1,.int .i64 1,.slice a0 2 c0,.slice a1 2 c1,.slice a2 2 c2] 38;go_upto_region 3 with fail;rw [<-hVm];have hb:=Nm.out.1;have Rm:=qH Nm.out.2;clear hVm Nm;replace KO:=KO.below hb;replace M1:=qH (M1.out.below hb);clear hb;go_wp2_with fail;refine (qgq _).mono ?_;rintro e w12 ⟨gP2,rfl,hp,hb⟩;have P2:=qH hp;replace KO:=KO.below hb;replace M1:=qH (M1.out.below hb);replace Rm:=qH (zkeep hb _ _ Rm.out);clear hb hp;go_wp2_with fail;refine (ex_f2 _ gP2 3 P2.out KO.kt).mono ?_;rintro e w13 ⟨v2,rfl,hm,hb⟩;have M2:=qH hm;replace KO:=KO.below hb;replace M1:=qH (M1.out.below hb);replace Rm:=qH (zkeep hb _ _ Rm.out);replace P2:=qH (P2.out.below hb);clear hb hm P2;obtain⟨d0,d1,d2,e0,f0,k0,e1,f1,k1,e2,f2,k2,rfl,hx0,hx1,hx2⟩:=M2.out.lit;clear hx0 hx1 hx2;obtain⟨Vs,hVs,Ns⟩:=nw1 w13 #[.int .i64 2,.int .i64 1,.slice d0 3 k0,.slice d1 3 k1,.slice d2 3 k2] 38;go_upto_region 4 with fail;rw [<-hVs];have hb:=Ns.out.1;have Rs:=qH Ns.out.2;clear hVs Ns;replace KO:=KO.below hb;replace M1:=qH (M1.out.below hb);replace Rm:=qH (zkeep hb _ _ Rm.out);replace M2:=qH (M2.out.below hb);clear hb;obtain⟨xa0,xa1,xa2,xb0,xo0,xc0,xb1,xo1,xc1,xb2,xo2,xc2,hxe,X0,X1,_⟩:=M1.out.lit;simp only [qa4,qa7,qaZ,qbB,and_true,true_and] at hxe;obtain⟨⟨rfl,rfl⟩,⟨rfl,rfl⟩,rfl,rfl⟩:=hxe;obtain⟨ya0,ya1,ya2,yb0,yo0,yc0,yb1,yo1,yc1,yb2,yo2,yc2,hye,Y0,_,_⟩:=M2.out.lit;simp only [qa4,qa7,qaZ,qbB,and_true,true_and] at hye;obtain⟨⟨rfl,rfl⟩,⟨rfl,rfl⟩,rfl,rfl⟩:=hye;rw [show told 2 (fitX1 0)=told 2 (fv [10 / 3,100]) from rfl] at X0;rw [show told 2 (fitX1 1)=told 2 (fv [0,0]) from rfl] at X1;rw [show told 3 (fitX2 0)=told 3 (fv [0,140,-40]) from rfl] at Y0;have HXY:=qH (qA X0 (qA X1 Y0));have HW4:=qH (Below.refl Vs.heap.size Vs);have lm:=(qG Rm.out).1;have ls:=(qG Rs.out).1;have m2:=rowC (B:=Vs.heap.size) Rm.out 2;have m3:=rowC (B:=Vs.heap.size) Rm.out 3;have s2:=rowC (B:=Vs.heap.size) Rs.out 2;clear X0 X1 Y0;refine wp_region_held_drew (S:=fun W=>Below Vs.heap.size Vs W) (by kernel_rfl) qB.drew (fun hS0=>?_);refine hT 0 (h:=hT 1 (h:=hT 2 (h:=hT 3 (h:=hT 4 (h:=hT 5 (h:=?_))))));have hVb:Below Vs.heap.size Vs Vs.drew:=qB.drew;refine hT 6 (hS:=hVb) (h:=hT 7 (hS:=hVb) (h:=hT 8 (hS:=hVb) (h:=?_)));refine hE 9 (h:=⟨qbQ hVb qN,hN (h:=?_)⟩);refine hC 10 (q_lit _ [⟨#[49,48,47,51]⟩,⟨#[49,48,48]⟩] [(10 / 3:Rat),100] 2 rfl rfl (by decide) (by simp only [qbx,qbJ,ft_100,ft_103];decide +kernel) (by decide)) (h:=?_);rintro e u0 ⟨qa0,qg0,qc0,rfl,hq0,hbq0⟩;have hU0:Below Vs.heap.size Vs u0:=hVb.trans (hbq0.mono hVb.size);refine⟨_,rfl,hU0,hN (h:=?_)⟩;refine hC 11 (qfA _ _ _ 2 c0 _ _ _ _ 2 qc0 _ u0 (qbV _ _) (by decide) (HXY.out.1.below hU0) (qbV _ _) (by decide) hq0) (h:=?_);rintro e t0 ⟨ok0,rfl,hok0,hbt0⟩;obtain rfl:ok0=true:=hok0.2 rfl;have hT0:Below Vs.heap.size Vs t0:=hU0.trans (hbt0.mono hU0.size);refine⟨_,rfl,hT0,hN (h:=?_)⟩;clear hq0 hbq0 hok0 hbt0 hU0;refine hT 12 (hS:=hT0) (h:=hT 13 (hS:=hT0) (h:=hT 14 (hS:=hT0) (h:=hT 15 (hS:=hT0) (h:=hT 16 (hS:=hT0) (h:=?_)))));refine hE 17 (h:=⟨qbQ hT0 qN,hN (h:=?_)⟩);refine hC 18 (q_lit _ [⟨#[48]⟩,⟨#[48]⟩] [(0:Rat),0] 2 rfl rfl (by decide) (by simp only [qbx,qbJ,ft_0];decide +kernel) (by decide)) (h:=?_);rintro e u1 ⟨qa1,qg1,qc1,rfl,hq1,hbq1⟩;have hU1:Below Vs.heap.size Vs u1:=hT0.trans (hbq1.mono hT0.size);refine⟨_,rfl,hU1,hN (h:=?_)⟩;refine hC 19 (qfA _ _ _ 2 c1 _ _ _ _ 2 qc1 _ u1 (qbV _ _) (by decide) (HXY.out.2.1.below hU1) (qbV _ _) (by decide) hq1) (h:=?_);rintro e t1 ⟨ok1,rfl,hok1,hbt1⟩;obtain rfl:ok1=true:=hok1.2 rfl;have hT1:Below Vs.heap.size Vs t1:=hU1.trans (hbt1.mono hU1.size);refine⟨_,rfl,hT1,hN (h:=?_)⟩;clear hq1 hbq1 hok1 hbt1 hU1;refine hT 20 (hS:=hT1) (h:=hT 21 (hS:=hT1) (h:=hT 22 (hS:=hT1) (h:=hT 23 (hS:=hT1) (h:=hT 24 (hS:=hT1) (h:=hT 25 (hS:=hT1) (h:=hT 26 (hS:=hT1) (h:=hT 27 (hS:=hT1) (h:=hT 28 (hS:=hT1) (h:=?_)))))))));refine hE 29 (h:=⟨qbQ hT1 qN,hN (h:=?_)⟩);refine hC 30 (q_lit _ [⟨#[48]⟩,⟨#[49,52,48]⟩,⟨#[45,52,48]⟩] [(0:Rat),140,-40] 3 rfl rfl (by decide) (by simp only [qbx,qbJ,ft_0,ft_140,ft_m40];decide +kernel) (by decide)) (h:=?_);rintro e u2 ⟨qa2,qg2,qc2,rfl,hq2,hbq2⟩;have hU2:Below Vs.heap.size Vs u2:=hT1.trans (hbq2.mono hT1.size);refine⟨_,rfl,hU2,hN (h:=?_)⟩;refine hC 31 (qfA _ _ _ 3 k0 _ _ _ _ 3 qc2 _ u2 (qbV _ _) (by decide) (HXY.out.2.2.below hU2) (qbV _ _) (by decide) hq2) (h:=?_);rintro e t2 ⟨ok2,rfl,hok2,hbt2⟩;obtain rfl:ok2=true:=hok2.2 rfl;have hT2:Below Vs.heap.size Vs t2:=hU2.trans (hbt2.mono hU2.size);refine⟨_,rfl,hT2,hN (h:=?_)⟩;clear hq2 hbq2 hok2 hbt2 hU2;refine hT 32 (hS:=hT2) (h:=hT 33 (hS:=hT2) (h:=?_));refine gr [(34,80),(35,81),(36,82),(37,83),(38,84),(39,85),(40,86)] [(37,[35,36]),(38,[37]),(39,[37]),(40,[34,38,39])] [0,1,2,3,4,5,6,7,8,9,10,11,12,13,14,15,16,17,18,19,20,21,22,23,24,25,26,27,28,29,30,31,32,33] [34,35,36,37,38,39,40] [] 41 43 (fl2 [(34,fun z W=>∃b:Nat,z=.func (.func 121) #[] #[.pointer (some ⟨b,0,none⟩)]/\W.heap[b]? = some (.cells #[.int .i64 7] 39 (0,0))),(35,fun z W=>∃g:Nat,z=.slice (some ⟨g,0,none⟩) 3 3/\PCells W (some ⟨g,0,none⟩) g 0 ramp),(36,fun z W=>∃g:Nat,z=.slice (some ⟨g,0,none⟩) 3 3/\W.heap[g]? = some (.cells #[.int .i64 1,.int .i64 1,.int .i64 0] 3 (0,0))),(37,fun z _=>z=.tuple #[mdv0,.int .i64 7]),(38,fun z _=>z=mdv0),(39,fun z _=>z=.int .i64 7),(40,fun z _=>z=.bool true)]) _ 2
  (hS:=fun w' h=>hT2.trans (h.mono hT2.size)) (hstep:=⟨⟨_,rfl,fun v w3 hb hF K hK=>?_⟩,⟨_,rfl,fun v w3 hb hF K hK=>?_⟩,⟨_,rfl,fun v w3 hb hF K hK=>?_⟩,⟨_,rfl,fun v w3 hb hF K hK=>?_⟩,⟨_,rfl,fun v w3 hb hF K hK=>?_⟩,⟨_,rfl,fun v w3 hb hF K hK=>?_⟩,⟨_,rfl,fun v w3 hb hF K hK=>?_⟩,trivial⟩) (hend:=fun v w3 hb hF _ fu=>?_)
 ·exact gC hK (qlE 7 w3) (h:=fun e w4 ⟨b,e1,h1,h2⟩=>⟨_,e1,⟨b,rfl,h2⟩,h1⟩)
 ·exact gC hK (qgq w3) (h:=fun e w4 ⟨g,e1,h1,h2⟩=>⟨_,e1,⟨g,rfl,h1⟩,h2⟩)
 ·exact gW hK (h:=⟨⟨w3.heap.size,rfl,qM _ _ _ rfl⟩,qbQ qB qN⟩)
 ·obtain⟨g5,e35,h5⟩:∃g:Nat,_:=hF.1;obtain⟨g6,e36,h6⟩:∃g:Nat,_:=hF.2.1;exact gC hK (ex_f3 w3 g5 g6 3 h5 h6 ((KO.kt.below hT2).below hb)) (h:=fun e w4 ⟨e1,h1⟩=>⟨_,e1,rfl,h1⟩)
 ·have e37:v 37=_:=hF.1;exact gV hK rfl
 ·have e37:v 37=_:=hF.1;exact gV hK rfl
 ·obtain⟨b4,e34,h4⟩:∃b:Nat,_:=hF.1;have e38:v 38=_:=hF.2.1;have e39:v 39=_:=hF.2.2.1;exact gC hK (qkF 7 b4 w3 h4) (h:=fun e w4 ⟨e1,h1⟩=>⟨_,e1,rfl,h1⟩)
 have e40:v 40=_:=hF 40 (by decide) (by decide);have hV5:Below Vs.heap.size Vs w3:=hT2.trans (hb.mono hT2.size);rw [e40];clear e40 hF hb;refine hT 41 (hS:=hV5) (h:=hT 42 (hS:=hV5) (h:=?_));refine wpAnyH_done (by kernel_rfl) ?_ _;have hb:=hV5;clear HXY HW4 lm ls m2 m3 s2 hS0 hVb hT0 hT1 hT2 hV5 M2 Rs;replace KO:=KO.below hb;replace M1:=qH (M1.out.below hb);replace Rm:=qH (zkeep hb _ _ Rm.out);clear hb;have y0:=qC _ _ 0 _ _ _ Rm.out;have y1:=qC _ _ 1 _ _ _ Rm.out;have y2:=qC _ _ 2 _ _ _ Rm.out;have y3:=qC _ _ 3 _ _ _ Rm.out;have y4:=qC _ _ 4 _ _ _ Rm.out;go_wp2_with fail;refine (ex_a1 _ _ M1.out KO.kt).mono ?_;rintro e w14 ⟨rfl,hb⟩;replace KO:=KO.below hb;replace M1:=qH (M1.out.below hb);replace Rm:=qH (zkeep hb _ _ Rm.out);clear hb y0 y1 y2 y3 y4;obtain⟨Va,hVa,Na⟩:=nw1 w14 #[.string ⟨#[49,54,48]⟩,.string ⟨#[51]⟩,.string ⟨#[48]⟩,.string ⟨#[49]⟩,.string ⟨#[48]⟩,.string ⟨#[49]⟩] 65;go_upto_region 6 with fail;rw [<-hVa];have hb:=Na.out.1;have Ra:=qH Na.out.2;clear hVa Na;replace KO:=KO.below hb;replace M1:=qH (M1.out.below hb);replace Rm:=qH (zkeep hb _ _ Rm.out);clear hb;have y0:=qC _ _ 0 _ _ _ Rm.out;have y1:=qC _ _ 1 _ _ _ Rm.out;have y2:=qC _ _ 2 _ _ _ Rm.out;have y3:=qC _ _ 3 _ _ _ Rm.out;have y4:=qC _ _ 4 _ _ _ Rm.out;go_wp2_with fail;refine (ex_e1 _ _ M1.out KO.kt KO.ke).mono ?_;rintro e w15 ⟨gr,cr,g0,c0x,g1,c1x,go,co,rfl,hel,hb⟩;have EL:=qH hel;replace KO:=KO.below hb;replace M1:=qH (M1.out.below hb);replace Rm:=qH (zkeep hb _ _ Rm.out);replace Ra:=qH (zkeep hb _ _ Ra.out);clear hb hel y0 y1 y2 y3 y4;obtain⟨Ve,hVe,Ne⟩:=nw1 w15 #[.int .i64 2,.slice none 0 0,.slice (some ⟨gr,0,none⟩) 3 cr,.slice (some ⟨go,0,none⟩) 3 co,.slice none 0 0,.int .i64 0,.slice none 0 0,.slice none 0 0,.int .i64 0,.int .i64 0] 82;go_upto_region 7 with fail;rw [<-hVe];have hb:=Ne.out.1;have Re:=qH Ne.out.2;clear hVe Ne;replace KO:=KO.below hb;replace M1:=qH (M1.out.below hb);replace Rm:=qH (zkeep hb _ _ Rm.out);replace Ra:=qH (zkeep hb _ _ Ra.out);replace EL:=qH (qA ((hb.cell (qac _ _ EL.out.1)).trans EL.out.1) (qA ((hb.cell (qac _ _ EL.out.2.1)).trans EL.out.2.1) (qA (EL.out.2.2.1.below hb) (qA (EL.out.2.2.2.1.below hb) (EL.out.2.2.2.2.below hb)))));clear hb;simp only [List.append_eq,List.cons_append,qbi];have la:=(qG Ra.out).1;have lm:=(qG Rm.out).1;have le:=(qG Re.out).1;have a0x:=rowC (B:=Ve.heap.size) Ra.out 0;have a1x:=rowC (B:=Ve.heap.size) Ra.out 1;have a2x:=rowC (B:=Ve.heap.size) Ra.out 2;have a3x:=rowC (B:=Ve.heap.size) Ra.out 3;have a4x:=rowC (B:=Ve.heap.size) Ra.out 4;have a5x:=rowC (B:=Ve.heap.size) Ra.out 5;have y0:=rowC (B:=Ve.heap.size) Rm.out 0;have y1:=rowC (B:=Ve.heap.size) Rm.out 1;have y2:=rowC (B:=Ve.heap.size) Rm.out 2;have y3:=rowC (B:=Ve.heap.size) Rm.out 3;have y4:=rowC (B:=Ve.heap.size) Rm.out 4;have x0:=rowC (B:=Ve.heap.size) Re.out 0;have x2:=rowC (B:=Ve.heap.size) Re.out 2;have x3:=rowC (B:=Ve.heap.size) Re.out 3;have r0:∀W,Below Ve.heap.size Ve W->W.cell? ⟨gr,0,none⟩=some (.slice (some ⟨g0,0,none⟩) 1 c0x):=fun W h=>(h.cell (qac Ve _ EL.out.1)).trans EL.out.1
 have r1:∀W,Below Ve.heap.size Ve W->W.cell? ⟨gr,1,none⟩=some (.slice (some ⟨g1,0,none⟩) 1 c1x):=fun W h=>(h.cell (qac Ve _ EL.out.2.1)).trans EL.out.2.1
 refine wp_region_held_drew (S:=fun W=>Below Ve.heap.size Ve W) (by kernel_rfl) qB.drew (fun hS0=>?_);refine hT 0 (h:=hT 1 (h:=hT 2 (h:=?_)));refine Go.Proofs.YtplkdeknjghobaaGreatDoor.gr [(3,102),(4,103),(5,104),(6,105),(7,106),(8,107),(9,108),(10,109),(11,110),(12,111),(13,112),(14,113),(15,114),(16,115)] [(4,[3]),(5,[4]),(6,[5]),(8,[7]),(9,[8]),(10,[9]),(12,[11]),(13,[12]),(14,[13]),(15,[6,10,14]),(16,[15])] [0,1,2] [3,4,5,6,7,8,9,10,11,12,13,14,15,16] [] 17 70 (fl2 [(3,SC ⟨#[49,54,48,47,51]⟩),(4,QC ⟨#[49,54,48]⟩ ⟨#[51]⟩),(5,PC ⟨#[49,54,48]⟩ ⟨#[51]⟩),(6,fun z _=>z=.agg #[.string ⟨#[49,54,48]⟩,.string ⟨#[51]⟩]),(7,SC ⟨#[48]⟩),(8,QC ⟨#[48]⟩ ⟨#[49]⟩),(9,PC ⟨#[48]⟩ ⟨#[49]⟩),(10,fun z _=>z=.agg #[.string ⟨#[48]⟩,.string ⟨#[49]⟩]),(11,SC ⟨#[48]⟩),(12,QC ⟨#[48]⟩ ⟨#[49]⟩),(13,PC ⟨#[48]⟩ ⟨#[49]⟩),(14,fun z _=>z=.agg #[.string ⟨#[48]⟩,.string ⟨#[49]⟩]),(15,fun z _=>z=.agg #[.string ⟨#[49,54,48]⟩,.string ⟨#[51]⟩,.string ⟨#[48]⟩,.string ⟨#[49]⟩,.string ⟨#[48]⟩,.string ⟨#[49]⟩]),(16,fun z _=>z=.bool true)]) _ 53
  (hS:=fun w' h=>qb0 h) (hstep:=⟨⟨_,rfl,fun v w3 hb hF K hK=>?_⟩,⟨_,rfl,fun v w3 hb hF K hK=>?_⟩,⟨_,rfl,fun v w3 hb hF K hK=>?_⟩,⟨_,rfl,fun v w3 hb hF K hK=>?_⟩,⟨_,rfl,fun v w3 hb hF K hK=>?_⟩,⟨_,rfl,fun v w3 hb hF K hK=>?_⟩,⟨_,rfl,fun v w3 hb hF K hK=>?_⟩,⟨_,rfl,fun v w3 hb hF K hK=>?_⟩,⟨_,rfl,fun v w3 hb hF K hK=>?_⟩,⟨_,rfl,fun v w3 hb hF K hK=>?_⟩,⟨_,rfl,fun v w3 hb hF K hK=>?_⟩,⟨_,rfl,fun v w3 hb hF K hK=>?_⟩,⟨_,rfl,fun v w3 hb hF K hK=>?_⟩,⟨_,rfl,fun v w3 hb hF K hK=>?_⟩,trivial⟩) (hend:=fun v w3 hb hF _ fu=>?_)
 ·exact gW hK (h:=⟨⟨w3.heap.size,rfl,qM _ _ _ rfl⟩,qbQ qB qN⟩)
 ·obtain⟨g5,eg,h5⟩:SC ⟨#[49,54,48,47,51]⟩ _ w3:=hF.1;exact gC hK (q1_at w3 g5 ⟨#[49,54,48,47,51]⟩ _ _ (160 / 3:Rat) h5 (by rw [qlP];decide +kernel) qlP (by decide)) (h:=fun e w4 ⟨g,c,e1,h1,h2⟩=>⟨_,e1,⟨g,c,rfl,h1⟩,h2⟩)
 ·obtain⟨g5,c5,eg,h5⟩:QC ⟨#[49,54,48]⟩ ⟨#[51]⟩ _ w3:=hF.1;exact gV hK ⟨g5,rfl,h5⟩
 ·obtain⟨g5,eg,h5,h6⟩:PC ⟨#[49,54,48]⟩ ⟨#[51]⟩ _ w3:=hF.1;exact gV hK rfl
 ·exact gW hK (h:=⟨⟨w3.heap.size,rfl,qM _ _ _ rfl⟩,qbQ qB qN⟩)
 ·obtain⟨g5,eg,h5⟩:SC ⟨#[48]⟩ _ w3:=hF.1;exact gC hK (q1_at w3 g5 ⟨#[48]⟩ _ _ (0:Rat) h5 (by rw [ft_0];decide +kernel) ft_0 (by decide)) (h:=fun e w4 ⟨g,c,e1,h1,h2⟩=>⟨_,e1,⟨g,c,rfl,h1⟩,h2⟩)
 ·obtain⟨g5,c5,eg,h5⟩:QC ⟨#[48]⟩ ⟨#[49]⟩ _ w3:=hF.1;exact gV hK ⟨g5,rfl,h5⟩
 ·obtain⟨g5,eg,h5,h6⟩:PC ⟨#[48]⟩ ⟨#[49]⟩ _ w3:=hF.1;exact gV hK rfl
 ·exact gW hK (h:=⟨⟨w3.heap.size,rfl,qM _ _ _ rfl⟩,qbQ qB qN⟩)
 ·obtain⟨g5,eg,h5⟩:SC ⟨#[48]⟩ _ w3:=hF.1;exact gC hK (q1_at w3 g5 ⟨#[48]⟩ _ _ (0:Rat) h5 (by rw [ft_0];decide +kernel) ft_0 (by decide)) (h:=fun e w4 ⟨g,c,e1,h1,h2⟩=>⟨_,e1,⟨g,c,rfl,h1⟩,h2⟩)
 ·obtain⟨g5,c5,eg,h5⟩:QC ⟨#[48]⟩ ⟨#[49]⟩ _ w3:=hF.1;exact gV hK ⟨g5,rfl,h5⟩
 ·obtain⟨g5,eg,h5,h6⟩:PC ⟨#[48]⟩ ⟨#[49]⟩ _ w3:=hF.1;exact gV hK rfl
 ·have e6:v 6=_:=hF.1;have e10:v 10=_:=hF.2.1;have e14:v 14=_:=hF.2.2.1;exact gV hK rfl
 ·have e15:v 15=_:=hF.1;exact gV hK (he:=by go_simp;rw [eq_3f];rfl) rfl
 have e16:v 16=_:=hF 16 (by decide) (by decide);rw [e16];have hA:Below Ve.heap.size Ve w3:=qb0 hb;clear e16 hF hb;refine hT 17 (hS:=hA) (h:=hT 18 (hS:=hA) (h:=hT 19 (hS:=hA) (h:=hT 20 (hS:=hA) (h:=hT 21 (hS:=hA) (h:=hT 22 (hS:=hA) (h:=hT 25 (hS:=hA) (h:=?_)))))));refine Go.Proofs.YtplkdeknjghobaaGreatDoor.gr [(23,122),(24,123),(26,125),(27,126),(28,127),(29,128),(30,129)] [(24,[23]),(27,[26]),(28,[27]),(29,[27]),(30,[24,28,29])] [0,1,2,3,4,5,6,7,8,9,10,11,12,13,14,15,16,17,18,19,20,21,22,25] [23,24,26,27,28,29,30] [] 31 70 (fl2 [(23,fun z W=>∃g:Nat,z=.slice (some ⟨g,0,none⟩) 3 3/\SCells W g 0 [⟨#[49,48,48,47,57]⟩,⟨#[52,48,48,47,57]⟩,⟨#[49,48,48,47,57]⟩]),(24,fun z W=>∃b:Nat,z=.func (.func 120) #[] #[.pointer (some ⟨b,0,none⟩)]/\IsAt W b [⟨#[49,48,48,47,57]⟩,⟨#[52,48,48,47,57]⟩,⟨#[49,48,48,47,57]⟩]),(26,fun z W=>∃g:Nat,z=.slice (some ⟨g,0,none⟩) 3 3/\PCells W (some ⟨g,0,none⟩) g 0 ramp),(27,fun z W=>∃g:Nat,z=.tuple #[.slice (some ⟨g,0,none⟩) 3 3,.int .i64 0]/\FCells W (some ⟨g,0,none⟩) g 0 (told 3 (fv [(100 / 9:Rat),400 / 9,100 / 9]))),(28,fun z W=>∃g:Nat,z=.slice (some ⟨g,0,none⟩) 3 3/\FCells W (some ⟨g,0,none⟩) g 0 (told 3 (fv [(100 / 9:Rat),400 / 9,100 / 9]))),(29,fun z _=>z=.int .i64 0),(30,fun z _=>z=.bool true)]) _ 39
  (hS:=fun w' h=>hA.trans (h.mono hA.size)) (hstep:=⟨⟨_,rfl,fun v w3 hb hF K hK=>?_⟩,⟨_,rfl,fun v w3 hb hF K hK=>?_⟩,⟨_,rfl,fun v w3 hb hF K hK=>?_⟩,⟨_,rfl,fun v w3 hb hF K hK=>?_⟩,⟨_,rfl,fun v w3 hb hF K hK=>?_⟩,⟨_,rfl,fun v w3 hb hF K hK=>?_⟩,⟨_,rfl,fun v w3 hb hF K hK=>?_⟩,trivial⟩) (hend:=fun v w4 hb hF _ fu=>?_)
 ·exact gW hK (h:=⟨⟨w3.heap.size,rfl,SCells.row (L:=[⟨#[49,48,48,47,57]⟩,⟨#[52,48,48,47,57]⟩,⟨#[49,48,48,47,57]⟩]) (qM _ _ _ rfl)⟩,qbQ qB qN⟩)
 ·obtain⟨g5,eg,h5⟩:∃g:Nat,_:=hF.1;exact gC hK (qiA g5 [⟨#[49,48,48,47,57]⟩,⟨#[52,48,48,47,57]⟩,⟨#[49,48,48,47,57]⟩] w3 h5) (h:=fun e w4 ⟨b,e1,h1,h2⟩=>⟨_,e1,⟨b,rfl,h2⟩,h1⟩)
 ·exact gC hK (qgq w3) (h:=fun e w4 ⟨g,e1,h1,h2⟩=>⟨_,e1,⟨g,rfl,h1⟩,h2⟩)
 ·obtain⟨g5,eg,h5⟩:∃g:Nat,_:=hF.1;exact gC hK (ex_s1 w3 _ g5 3 ((M1.out.below hA).below hb) h5 ((KO.kt.below hA).below hb)) (h:=fun e w4 ⟨g,e1,h1,h2⟩=>⟨_,e1,⟨g,rfl,h1⟩,h2⟩)
 ·obtain⟨g5,eg,h5⟩:∃g:Nat,_:=hF.1;exact gV hK ⟨g5,rfl,h5⟩
 ·obtain⟨g5,eg,h5⟩:∃g:Nat,_:=hF.1;exact gV hK rfl
 ·obtain⟨b5,eb,h5⟩:∃b:Nat,_:=hF.1;obtain⟨g6,eg,h6⟩:∃g:Nat,_:=hF.2.1;have e29:v 29=_:=hF.2.2.1;exact gC hK (qfL (L:=[⟨#[49,48,48,47,57]⟩,⟨#[52,48,48,47,57]⟩,⟨#[49,48,48,47,57]⟩]) (l:=[(100 / 9:Rat),400 / 9,100 / 9]) (c:=3) h5 rfl rfl (by decide) (by simp only [qbx,qbJ,ft_1009,ft_4009];decide +kernel) (by decide) h6) (h:=fun e w4 ⟨e1,h1⟩=>⟨_,e1,rfl,h1⟩)
 have e30:v 30=_:=hF 30 (by decide) (by decide);rw [e30];have hB:Below Ve.heap.size Ve w4:=hA.trans (hb.mono hA.size);clear e30 hF hb;refine hT 31 (hS:=hB) (h:=hT 32 (hS:=hB) (h:=hT 33 (hS:=hB) (h:=hT 34 (hS:=hB) (h:=hT 35 (hS:=hB) (h:=hT 36 (hS:=hB) (h:=hT 37 (hS:=hB) (h:=hT 38 (hS:=hB) (h:=hT 39 (hS:=hB) (h:=hT 40 (hS:=hB) (h:=hT 41 (hS:=hB) (h:=hT 42 (hS:=hB) (h:=hT 43 (hS:=hB) (h:=hT 44 (hS:=hB) (h:=hT 45 (hS:=hB) (h:=hT 46 (hS:=hB) (h:=hT 47 (hS:=hB) (h:=hT 48 (hS:=hB) (h:=hT 49 (hS:=hB) (h:=hT 50 (hS:=hB) (h:=hT 51 (hS:=hB) (h:=?_)))))))))))))))))))));refine hE 52 (h:=⟨qbQ hB qN,hN (h:=?_)⟩);refine hC 53 (qlC _ g0 0 c0x [1000000] 1 rfl (by decide) (EL.out.2.2.1.below hB)) (h:=?_);rintro e w5 ⟨rfl,hb⟩;have hC5:Below Ve.heap.size Ve w5:=hB.trans (hb.mono hB.size);clear hb;refine⟨_,rfl,hC5,hN (h:=?_)⟩;refine hT 54 (hS:=hC5) (h:=hT 55 (hS:=hC5) (h:=hT 56 (hS:=hC5) (h:=hT 57 (hS:=hC5) (h:=hT 58 (hS:=hC5) (h:=hT 59 (hS:=hC5) (h:=?_))))));refine hE 60 (h:=⟨qbQ hC5 qN,hN (h:=?_)⟩);refine hC 61 (qlC _ g1 0 c1x [0] 1 rfl (by decide) (EL.out.2.2.2.1.below hC5)) (h:=?_);rintro e w6 ⟨rfl,hb⟩;have hC6:Below Ve.heap.size Ve w6:=hC5.trans (hb.mono hC5.size);clear hb;refine⟨_,rfl,hC6,hN (h:=?_)⟩;refine hT 62 (hS:=hC6) (h:=hT 63 (hS:=hC6) (h:=hT 64 (hS:=hC6) (h:=hT 65 (hS:=hC6) (h:=?_))));refine hE 66 (h:=⟨qbQ hC6 qN,hN (h:=?_)⟩);refine hC 67 (qlC _ go 0 co [33333,500000,500000] 3 rfl (by decide) (EL.out.2.2.2.2.below hC6)) (h:=?_);rintro e w7 ⟨rfl,hb⟩;have hC7:Below Ve.heap.size Ve w7:=hC6.trans (hb.mono hC6.size);clear hb;refine⟨_,rfl,hC7,hN (h:=?_)⟩;refine hT 68 (hS:=hC7) (h:=hT 69 (hS:=hC7) (h:=?_));refine wpAnyH_done (by kernel_rfl) ?_ _;have KE:=qH (KO.kb.trans (hC7.mono KO.kb.size));go_wp2;go_ret;exact⟨rfl,KE.out⟩
def PdAt (W:World) (v:Value) (ch:Nat) (L:List (List Int)):Prop:=∃(ao:Option Addr) (b off c:Nat),v=.agg #[.int .u8 (ch:Int),.slice ao L.length c]/\ch<256/\L.length<=9223372036854775807/\PRws W ao b off L
def wsM (G:List Int) (m i:Nat):List Int:=(List.range m).map fun j=>if j<i then 1+wtz G j % 9 else wtz G j
theorem qia (G:List Int) (m i:Nat):(wsM G m i).length=m:=by unfold wsM;simp
theorem wsM_at {G:List Int} {m i j:Nat} (hj:j<m):(wsM G m i).getD j 0=if j<i then 1+wtz G j % 9 else wtz G j:=by
 unfold wsM;rw [qaa,qaB,qbn hj];rfl
theorem wsM_zero (G:List Int) (m:Nat):wts G m=wsM G m 0:=by
 unfold wts wsM;exact List.map_congr_left fun j _=>by rw [if_neg (qbM j)]
theorem qnh (G:List Int) (m q j:Nat):(wsM G m q)[j]? = if j<m then some (if j<q then 1+wtz G j % 9 else wtz G j) else none:=by
 unfold wsM;rw [qaB]
 by_cases h:j<m
 ·rw [qbn h,if_pos h];rfl
 ·rw [qaN (by rw [qbG];omega),if_neg h];rfl
theorem wsM_succ {G:List Int} {m i:Nat} (hi:i<m):(wsM G m i).set i (1+wtz G i % 9)=wsM G m (i+1):=by
 refine List.ext_getElem? fun j=>?_
 rw [List.getElem?_set,qnh,qnh,qia]
 by_cases e:i=j
 ·subst e;rw [if_pos rfl,if_pos hi,if_pos hi,if_pos (Nat.lt_succ_self _)]
 ·rw [if_neg e]
  by_cases h:j<i
  ·rw [if_pos h,if_pos (show j<i+1 by omega)]
  ·rw [if_neg h,if_neg (show ¬j<i+1 by omega)]
theorem wsM_w9 {G:List Int} {m:Nat} (_h:∀k,0<=G.getD k 0/\G.getD k 0<65536):W9 (wsM G m m) m:=fun i hi=>by
 rw [wsM_at hi,if_pos hi];omega
theorem wsM_ok {G:List Int} {m:Nat} (h:∀k,0<=G.getD k 0/\G.getD k 0<65536):WOk (wsM G m m):=fun i hi=>by
 rw [qia] at hi;have:=wsM_w9 h i hi;omega
theorem kindN {k:Nat} (h:1<=k/\k<=3):qcv (k:Int) k:=⟨rfl,h.1,h.2⟩
theorem qiQ {l:List Pt} (h:PtsOk l) {m:Nat} (hm:l.length=m):∀q,q<m->(l.getD q pt0).name.size<=4611686018427387904/\(l.getD q pt0).dev.length<=4611686018427387904:=fun q hq=>by
 have hp:=(h.rows q (by omega)).1;have h1:=hp.name.2.1;have h2:=hp.n4;exact⟨by omega,by omega⟩
structure SuSt (wc W:World) (gs:Nat) (q:Rat):Prop where
 old:Below gs wc W
 row:∃s1 s2,ftxt q=(s1,s2)/\W.heap[gs]? = some (.cells #[.string s1,.string s2] 44 (0,0))
 lt:gs<W.heap.size
theorem qjq (ch kd gb go gc:Nat) (L:List (List Int)) (G:List Int) (ga:Option Addr) (v:Value) (w0:World) (hv:PdAt w0 v ch L) (hkd:kd<256) (hG:KCells w0 .u16 ga gb go G) (hGl:G.length<=9223372036854775807) (hwf:∀k,0<=G.getD k 0/\G.getD k 0<65536) (hT:HasT w0) (hE:HasE w0) :
  Calls Tryz.prog 6 #[v,.int .u8 (kd:Int),.slice ga G.length gc] w0 fun e w'=>e=.returned (.bool true)/\Below w0.heap.size w0 w':=by
 obtain⟨ao,b,off,cd,rfl,hch,hL,hP⟩:=hv;obtain⟨W1,hW1,K1⟩:=nw1 w0 #[.int .u8 (ch:Int),.slice ao L.length cd] 24;have H0:=qH (qA hP (qA hT (qA hE hG)));have HG:=qH (qA hGl hwf);have HL:=qH hL;clear hP hT hE hG hGl hwf hL;go_enter Tryz.func6,Tryz.ntmps6;go_upto_region 1 with fail;rw [<-hW1];clear hW1;go_wp2_with fail;refine (qnf W1 (H0.out.2.1.below K1.out.1) (H0.out.2.2.1.below K1.out.1)).mono ?_;rintro e w2 ⟨rfl,hb⟩;have K2:=K1.below hb;clear hb K1;have f0:=qF _ _ 0 _ _ K2.out.2;have c0:=qC _ _ 0 _ _ _ K2.out.2;have hm:(ch:Int) % 3=((ch % 3:Nat):Int):=by omega
 obtain⟨x,hx⟩:∃x,ch % 3=x:=⟨_,rfl⟩;rw [hx] at hm;have hx3:x<3:=by omega
 obtain⟨W3,hW3⟩:∃W3,W3=w2.setCell ⟨w0.heap.size,0,none⟩ (.int .u8 (x:Int)):=⟨_,rfl⟩;have K3:Kn (fun W=>Below w0.heap.size w0 W/\W.heap[w0.heap.size]? = some (.cells #[.int .u8 (x:Int),.slice ao L.length cd] 24 (0,0))) W3:=.of
  ⟨hW3▸K2.out.1.setCell (p:=⟨w0.heap.size,0,none⟩) qN _,hW3▸heap_setCell_same _ _ 0 _ _ _ K2.out.2⟩
 go_upto_region 4 with fail;rw [<-hW3];clear hW3 f0 c0 K2 hm hx hch
 go_wp2_with ((with_reducible refine lW_ rfl 24 _ rfl (w0.heap.size) #[.int .u8 (x:Int),.slice ao L.length cd] K3.out.2 Tryz.underlying24 2 ?_))
 refine (qjC x L ao b off cd W3 HL.out (H0.out.1.below K3.out.1)).mono ?_;rintro e w4 ⟨u,rfl,⟨Bp,_,hpo⟩,hb⟩;have K4:Hid (Below w0.heap.size w0 w4):=qH (K3.out.1.trans (hb.mono K3.out.1.size));clear hb K3;obtain⟨n,hn⟩:∃n,1+x % 4=n:=⟨_,rfl⟩;have hn3:1<=n/\n<=3:=by omega
 rw [hn] at hpo;have hok:=ptsD_ok L hn3.1 (show n<=4 by omega);have h8:=qiP (n:=n) L;have hcn:=qhC n L;obtain⟨l,hl⟩:∃l,ptsD n L=l:=⟨_,rfl⟩;rw [hl] at hpo hok h8 hcn;obtain⟨gp,cp,rfl,hPC⟩:=hpo.cells hok.r1 (fun j hj=>(hok.rows j hj).1.n1);obtain⟨m,hm⟩:∃m,l.length=m:=⟨_,rfl⟩;have hm12:m<=12:=by rw [<-hm];exact h8.1
 have hm1:1<=m:=by rw [<-hm];exact hok.r1
 rw [hm];have HPC:=qH (qA hPC (qA hok (qA h8 (qA hcn hm))));clear hpo hok h8 hcn hl hn hPC hx3 hm;have hkm:(kd:Int) % 3=((kd % 3:Nat):Int):=by omega
 obtain⟨y,hy⟩:∃y,kd % 3=y:=⟨_,rfl⟩;rw [hy] at hkm;obtain⟨k,hke⟩:∃k,1+y=k:=⟨_,rfl⟩;have hk13:1<=k/\k<=3:=by omega
 have hki:(1:Int)+(y:Int)=(k:Int):=by omega
 have HWt:=qH (qjL (some ⟨gp,0,none⟩) ga m cp gb go gc G w4 (by omega) HG.out.1 (H0.out.2.2.2.below K4.out) HG.out.2);clear hy hke;go_wp2_with fail;refine HWt.out.mono ?_;rintro e w5 ⟨u2,rfl,hIo,hb5⟩;obtain⟨va,vc,rfl⟩:=qdB hIo (qhf G m);obtain⟨gw,rfl⟩:∃gw,va=some ⟨gw,0,none⟩:=by
  obtain⟨g,c,e,_⟩:=IOwn.cells hIo (by rw [qhf];exact hm1);injection e with e1;exact⟨g,e1⟩
 rw [wsM_zero] at hIo;have HI0:=qH (qA hIo hb5);clear hIo hb5 hkm HWt
 try rw [hki]
 go_wp2_with fail
 try rw [hki]
 clear hki
 go_loopw [42] (fun x42 W=>∃i:Nat,x42=.int .i64 (i:Int)/\i<=m/\Hid (IOwn W w4.heap.size (.slice (some ⟨gw,0,none⟩) m vc) (wsM G m i)/\Below w4.heap.size w4 W)) (fun x42 _=>m-(RowKit.intOf x42).toNat)
 case atStart=>exact⟨0,rfl,qal _,HI0⟩
 case round =>
  obtain⟨i,rfl,hi,hS⟩:=hrel
  by_cases him:i<m
  case pos =>
   have hii:(i:Int)<(m:Int):=by omega
   obtain⟨g',e',hBg,⟨hc,hf⟩,hset⟩:=IOwn.set hS.out.1 (i:=i) (by rw [qia];exact him) (1+wtz G i % 9);obtain rfl:gw=g':=by injection e' with e1;injection e1
   rw [wsM_at him,if_neg (qbz _)] at hc;rw [wsM_succ him] at hset;have hzr:=wtz_le HG.out.2 i;obtain⟨z,hz⟩:∃z,wtz G i=z:=⟨_,rfl⟩;rw [hz] at hc hset hzr;obtain⟨r,hr⟩:∃r,z % 9=r:=⟨_,rfl⟩;have hr9:0<=r/\r<9:=by omega
   have hr2:z.tmod 9=r:=by rw [Int.tmod_eq_emod_of_nonneg hzr.1];exact hr
   rw [hr] at hset;have HN:=qH (qA hset (hS.out.2.setCell (p:=⟨gw,i,none⟩) hBg (.int .i64 (1+r))));clear e' hBg hset hz hS;go_wp2;go_roundw
   case rel=>exact⟨i+1,by go_num,him,HN⟩
   case measure=>simp [RowKit.intOf];omega
  have hii:¬(i:Int)<(m:Int):=by omega
  obtain rfl:m=i:=by omega
  obtain⟨ws,hws⟩:∃ws,wsM G m m=ws:=⟨_,rfl⟩;have hwl:ws.length=m:=by rw [<-hws];exact qia _ _ _
  have hw9:W9 ws m:=by rw [<-hws];exact wsM_w9 HG.out.2
  have hwo:WOk ws:=by rw [<-hws];exact wsM_ok HG.out.2
  obtain⟨hIw,hBw⟩:=hS.out;rw [hws] at hIw;obtain⟨gx,cx,ex,hNw⟩:=IOwn.cells hIw (by rw [hwl];exact hm1);obtain rfl:gw=gx:=by injection ex with e1;injection e1 with e1;injection e1
  have HF:=qH (qjr m gp 0 cp gw 0 m vc (some ⟨gp,0,none⟩) (some ⟨gw,0,none⟩) l (k:Int) ws wr HPC.out.2.2.2.2 (by omega) (qiQ HPC.out.2.1 HPC.out.2.2.2.2) hwl (by omega) (HPC.out.1.below hBw) hNw (H0.out.2.1.below (K4.out.trans (hBw.mono K4.out.size))));have HB5:=qH (K4.out.trans (hBw.mono K4.out.size));have HX:=qH (qA (HPC.out.1.below hBw) (qA hNw (qA hwl (qA hw9 hwo))));clear hws hwl hw9 hwo hIw hBw ex hNw hS HI0;go_wp2_with fail;refine HF.out.mono ?_;intro e w6 hFi;obtain⟨hb6,hFi⟩:=hFi;have HB6:=qH (HB5.out.trans (hb6.mono HB5.out.size));have HX6:Kn (fun W=>PCells W (some ⟨gp,0,none⟩) gp 0 l/\NCells W (some ⟨gw,0,none⟩) gw 0 ws) w6:=.of ⟨HX.out.1.below hb6,HX.out.2.1.below hb6⟩;clear hb6 HF;have hk3:¬(k=3/\chans l=4):=by rw [HPC.out.2.2.2.1];omega
  have hw9':W9 ws l.length:=by rw [HPC.out.2.2.2.2];exact HX.out.2.2.2.1
  have hwl':ws.length=l.length:=by rw [HPC.out.2.2.2.2];exact HX.out.2.2.1
  rcases hFi with ⟨v6,rfl,hFG⟩ | ⟨c6,rfl,hFF⟩
  case inr =>
   obtain rfl:c6=7:=by
    rcases hFF with ⟨h,_⟩ | ⟨_,h,_⟩ | ⟨_,_,_,kk,hkk,h⟩
    ·exact absurd HPC.out.2.1 h
    ·exact absurd ⟨⟨k,kindN hk13⟩,hwl',HX.out.2.2.2.2⟩ h
    ·obtain rfl:=(kindN hk13).uniq hkk;rcases h with ⟨h1,h2,_⟩ | ⟨_,⟨_,h⟩ | ⟨hs,c,X,hc,hX,hn,_⟩⟩
     ·exact absurd ⟨h1,h2⟩ hk3
     ·exact h
     ·exact absurd (qkK HPC.out.2.1 HPC.out.2.2.1 hk13 hk3 hw9' hc hs hX) hn
   have HBz:=qH (qbQ (o:=.cells #[.int .i64 0,.int .i64 0,.slice none 0 0,.slice none 0 0,.slice none 0 0] 38) HB6.out (qaj qN qN));clear hk3 hw9' hwl';unfold mdv0;go_wp2;go_ret;exact⟨rfl,HBz.out⟩
  obtain⟨_,_,_,kk,hkk,_,hsg,X,hX,hMd⟩:=hFG;obtain rfl:k=kk:=((kindN hk13).uniq hkk).symm;have hlaw:=sum_law HPC.out.2.1 HPC.out.2.2.1 hk13 hk3 hw9' hsg (fun c hc=>(hX c hc).1);have hmk:=mdq_ok (n:=chans l) hk13 (by rw [HPC.out.2.2.2.1];omega) (by rw [HPC.out.2.2.2.1];omega) hk3 (fun c hc=>(hX c hc).2);rw [HPC.out.2.2.2.1] at hMd hmk;have hres:∀c q,c<3->q<m->resA (mdq k n (many k n) X) l k (q*3+c)=rr l k X c q:=fun c q hc hq=>by
   have:=resq_eq (x:=X) HPC.out.2.1 (by rw [HPC.out.2.2.2.2];exact hq) hc (k:=k);rw [HPC.out.2.2.2.1] at this;rw [qgV _ _ _ _ _ hc];exact this
  obtain⟨M,hMM⟩:∃M,many k n=M:=⟨_,rfl⟩;have hM10:1<=M/\M<=10:=by rw [<-hMM];exact qe6 (kindN hk13) hn3.1 (by omega) (by omega)
  rw [hMM] at hMd hmk hres;have hzero:∀t c,c<3->t<M->sps l k ws X t c m=0:=fun t c hc ht=>by
   have:=hlaw.zero t c hc (by rw [HPC.out.2.2.2.1,hMM];exact ht)
   rwa [HPC.out.2.2.2.2] at this
  obtain⟨a,b',o,d,rfl,hF⟩:=hMd.parts;have hlen:∀c,c<3->((mdq k n M X).row c).length=M:=fun c hc=>by rw [qe7 hc,qbV]
  have hmki:(mdq k n M X).kind=(k:Int):=rfl;have hmin:(mdq k n M X).inn=(n:Int):=rfl;obtain⟨md,hmd⟩:∃md,mdq k n M X=md:=⟨_,rfl⟩;rw [hmd] at hMd hmk hF hlen hmki hmin hres ⊢;rw [hmki,hmin,hlen 0 (by decide),hlen 1 (by decide),hlen 2 (by decide)] at hMd ⊢;obtain⟨W7,hW7,N7⟩:=nw1 w6 #[.int .i64 (k:Int),.int .i64 (n:Int),.slice (a 0) M (d 0),.slice (a 1) M (d 1),.slice (a 2) M (d 2)] 38;have K7:=(HX6.below N7.out.1).also (q:=fun W=>Below w0.heap.size w0 W/\W.heap[w6.heap.size]? = some (.cells #[.int .i64 (k:Int),.int .i64 (n:Int),.slice (a 0) M (d 0),.slice (a 1) M (d 1),.slice (a 2) M (d 2)] 38 (0,0))) ⟨HB6.out.trans (N7.out.1.mono HB6.out.size),N7.out.2⟩;have hl3:=fun q (hq:q<3)=>(show (md.row q).length<=4611686018427387904 by rw [hlen q hq];omega)
  have HR:=qH (qh2 md _ m gp 0 cp (some ⟨gp,0,none⟩) l W7 (hMd.below N7.out.1) HPC.out.2.2.2.2 (by omega) (qiQ HPC.out.2.1 HPC.out.2.2.2.2) hl3 K7.out.1.1 (H0.out.2.1.below K7.out.2.1));have HWs:=qH (qA HX.out.2.2.1 HX.out.2.2.2.1);have HLw:=qH (qA hlaw (qA hres (qA hzero (qA hMM (qA hmk hmin)))));have HXs:=qH (fun c (hc:c<3)=>(hX c hc).1);clear hk3 hw9' hwl' hlaw hres hzero hMM hmk hmin hmki hlen hMd hF hX hsg hmd hl3 N7 HX6 HX HB5;go_upto_region 14 with fail;rw [<-hW7];clear hW7
  go_wp2_with ((with_reducible refine lW_ rfl 38 _ rfl (w6.heap.size) #[.int .i64 (k:Int),.int .i64 (n:Int),.slice (a 0) M (d 0),.slice (a 1) M (d 1),.slice (a 2) M (d 2)] K7.out.2.2 Tryz.underlying38 5 ?_))
  refine HR.out.mono ?_;intro e w8 hRs;obtain⟨hb8,⟨v8,rfl,_,kk,hkk2,_,gz,rfl,hFr⟩ | ⟨c8,rfl,hRF⟩⟩:=hRs
  case inr =>
   exfalso;rcases hRF with ⟨h,_⟩ | ⟨_,h,_⟩ | ⟨_,_,h,_⟩ | ⟨_,_,kk,hkk2,h⟩
   ·exact h ⟨_,_,HLw.out.2.2.2.2.1⟩
   ·exact h HPC.out.2.1
   ·exact h (by rw [HPC.out.2.2.2.1];exact HLw.out.2.2.2.2.2)
   ·obtain rfl:k=kk:=(HLw.out.2.2.2.2.1.uniq hkk2).1.symm;refine h fun j hj=>?_
    rw [HPC.out.2.2.2.2] at hj;have hc3:j % 3<3:=qbp _ (by decide);have e:j=j / 3*3+j % 3:=by omega
    rw [e,HLw.out.2.1 (j % 3) (j / 3) hc3 (by omega)];exact HLw.out.1.res _ _ hc3 (by rw [HPC.out.2.2.2.2];omega)
  obtain rfl:k=kk:=(HLw.out.2.2.2.2.1.uniq hkk2).1.symm;rw [HPC.out.2.2.2.2] at hFr ⊢;have K8:=(K7.below hb8).also (q:=fun W=>FCells W (some ⟨gz,0,none⟩) gz 0 (told (m*3) (resA md l k))) hFr;clear hb8 hFr hkk2 K7 HR;go_upto_region 17 with fail;have c2:=qC _ _ 2 _ _ _ K8.out.1.2.2;go_wp2_with fail;clear c2
  go_loopw [85] (fun x85 W=>∃t:Nat,x85=.int .i64 (t:Int)/\t<=M/\Hid (Below w8.heap.size w8 W)) (fun x85 _=>M-(RowKit.intOf x85).toNat)
  case atStart=>exact⟨0,rfl,qal _,qH qB⟩
  case round =>
   obtain⟨t,rfl,ht,HBt⟩:=hrel
   by_cases htM:t<M
   case neg =>
    have hti:¬(t:Int)<(M:Int):=by omega
    have HBe:=qH (K8.below HBt.out).out.1.2.1;go_wp2;go_ret;exact⟨rfl,HBe.out⟩
   have hti:(t:Int)<(M:Int):=by omega
   go_wp2_with fail
   go_loopw [88] (fun x88 W=>∃c:Nat,x88=.int .i64 (c:Int)/\c<=3/\Hid (Below w8.heap.size w8 W)) (fun x88 _=>3-(RowKit.intOf x88).toNat)
   case atStart=>exact⟨0,rfl,qal _,HBt⟩
   case round =>
    obtain⟨c,rfl,hc,HBc⟩:=hrel
    by_cases hc3:c<3
    case neg =>
     obtain rfl:c=3:=by omega
     go_wp2;go_roundw
     case rel=>exact⟨t+1,by go_num,htM,HBc⟩
     case measure=>simp [RowKit.intOf];omega
    have hci:(c:Int)<3:=by omega
    go_wp2_with fail;refine (q1_at _ wr.heap.size ⟨#[48]⟩ ⟨#[48]⟩ ⟨#[49]⟩ (0:Rat) (qM _ _ _ rfl) (by rw [ft_0];decide +kernel) ft_0 (by decide)).mono ?_;rintro e wq ⟨gq,cq,rfl,⟨hq0,hq1⟩,hbq⟩;have HBw:Hid (Below w8.heap.size w8 wq):=qH ((qbQ HBc.out qN).trans (hbq.mono (qbQ HBc.out qN).size));clear hbq HBc;obtain⟨Ws,hWs,Ns⟩:=nw1 wq #[.string ⟨#[48]⟩,.string ⟨#[49]⟩] 44;have Hs0:Hid (SuSt wq Ws wq.heap.size (sps l k ws X t c 0)):=qH ⟨Ns.out.1,⟨_,_,ft_0,Ns.out.2⟩,(qG Ns.out.2).1⟩;go_upto_region 24 with fail;rw [<-hWs];clear hWs Ns hq0 hq1;go_wp2_with fail
    go_loopw [97] (fun x97 W=>∃i:Nat,x97=.int .i64 (i:Int)/\i<=m/\Hid (SuSt wq W wq.heap.size (sps l k ws X t c i))) (fun x97 _=>m-(RowKit.intOf x97).toNat)
    case atStart=>exact⟨0,rfl,qal _,Hs0⟩
    case round =>
     obtain⟨i,rfl,hi,hS⟩:=hrel
     by_cases him:i<m
     case neg =>
      obtain rfl:m=i:=by omega
      have hii:¬(m:Int)<(m:Int):=by omega
      obtain⟨s1,s2,hs12,hrow⟩:=hS.out.row;rw [HLw.out.2.2.1 t c hc3 htM,ft_0] at hs12;obtain⟨rfl,rfl⟩:=Prod.mk.inj hs12;have y0:=qC _ _ 0 _ _ _ hrow;have HBx:Hid (Below w8.heap.size w8 wr):=qH (HBw.out.trans (hS.out.old.mono HBw.out.size));clear hs12 hrow hS Hs0;go_wp2;go_roundw
      case rel=>exact⟨c+1,by go_num,hc3,HBx⟩
      case measure=>simp [RowKit.intOf];omega
     have hii:(i:Int)<(m:Int):=by omega
     have HBi:Hid (Below w8.heap.size w8 wr):=qH (HBw.out.trans (hS.out.old.mono HBw.out.size));have Kq:=K8.below HBi.out;obtain⟨s1,s2,hs12,hrow⟩:=hS.out.row;have HSo:=qH (qA hS.out.old (qA hs12 hS.out.lt));have rS:=qH hrow;clear hs12 hrow hS Hs0;obtain⟨p0,⟨ra,rb,ro,rc,p1,hdv⟩,p2,p3,p4⟩:=Kq.out.1.1.1.cell i (by rw [HPC.out.2.2.2.2];exact him);rw [qaI] at p0 p1 p2 p3 p4;have hdl:=(HPC.out.2.1.rows i (by rw [HPC.out.2.2.2.2];exact him)).2;rw [HPC.out.2.2.2.1] at hdl;have hpt:=(HPC.out.2.1.rows i (by rw [HPC.out.2.2.2.2];exact him)).1;obtain⟨pt,hpte⟩:∃pt,l.getD i pt0=pt:=⟨_,rfl⟩;rw [hpte] at p0 p1 p2 p3 p4 hdv hdl hpt;rw [hdl] at p1;obtain⟨pn,hpn⟩:∃z,pt.name=z:=⟨_,rfl⟩;obtain⟨q0,hq0⟩:∃z,pt.l0=z:=⟨_,rfl⟩;obtain⟨q1,hq1⟩:∃z,pt.l1=z:=⟨_,rfl⟩;obtain⟨q2,hq2⟩:∃z,pt.l2=z:=⟨_,rfl⟩;rw [hpn] at p0;rw [hq0] at p2;rw [hq1] at p3;rw [hq2] at p4;have HD:=qH (qA hdv (qA hdl (qA hpt hpte)));clear hpn hq0 hq1 hq2 hdv hdl hpt hpte;obtain⟨Wp,hWp,Np⟩:=nw1 wr #[.string pn,.slice ra n rc,.int .i64 q0,.int .i64 q1,.int .i64 q2] 55;have HSl:Hid (wq.heap.size<wr.heap.size):=qH HSo.out.2.2;go_upto_region 27 with fail;rw [<-hWp];clear hWp p0 p1 p2 p3 p4;have rP1:=qC _ _ 1 _ _ _ Np.out.2;replace rS:=qH (zkeep Np.out.1 _ _ rS.out);have KB:Kn (fun W=>Below wr.heap.size wr W) Wp:=.of Np.out.1;have HTm:=qH (qfU (k:Int) rb ro n rc ra pt.dev Wp HD.out.2.1 (by omega) (HD.out.1.below Np.out.1) (H0.out.2.1.below (Kq.out.1.2.1.trans (Np.out.1.mono Kq.out.1.2.1.size))));clear Np;go_wp2_with fail;refine HTm.out.mono ?_;intro e w9 hTm;obtain⟨hb9,hTm⟩:=hTm;replace rS:=qH (zkeep hb9 _ _ rS.out);replace KB:=Kn.below KB hb9;have hgood:∃(tp:Option Addr) (tg tc:Nat),e=.returned (.tuple #[.slice tp M tc,.int .i64 0])/\FCells w9 tp tg 0 (told M (termQ k pt.dev)):=by
      rcases hTm with ⟨v9,rfl,_,_,_,kk,hkk,_,tp,tg,tc,rfl,hFt⟩ | ⟨c9,rfl,hTF⟩
      ·obtain rfl:k=kk:=((kindN hk13).uniq hkk).symm;rw [<-qd7,HD.out.2.1,HLw.out.2.2.2.1] at hFt;exact⟨tp,tg,tc,by rw [HD.out.2.1,HLw.out.2.2.2.1],hFt⟩
      ·exfalso;have hd:=HD.out.2.1;rcases hTF with ⟨h,_⟩ | ⟨_,⟨h,_⟩ | ⟨_,_,h,_⟩⟩
       ·exact h ⟨⟨k,kindN hk13⟩,by omega,by omega⟩
       ·exact h HD.out.2.2.1.vals
       ·omega
     obtain⟨tp,tg,tc,rfl,hFt⟩:=hgood;have HFt:=qH hFt;clear hTm hFt hb9 rP1 HTm;have HB9:Hid (Below w8.heap.size w8 w9):=qH (HBi.out.trans (KB.out.mono HBi.out.size));have c2:=qC _ _ 2 _ _ _ (zkeep HB9.out _ _ K8.out.1.2.2);have hMb:(M:Int)=(M:Int):=rfl;go_upto_region 30 with fail;clear c2 hMb;obtain⟨z,hz⟩:∃z,ws.getD i 0=z:=⟨_,rfl⟩;have o0:=(K8.below HB9.out).out.1.1.2.cell i (by rw [HWs.out.1];exact him);rw [qaI,hz] at o0;have hzr:=HWs.out.2 i him;rw [hz] at hzr;have HZ:=qH hz;have hOf:=fun (W:World) (hb:Below w8.heap.size w8 W)=>of_int z 1 (by decide) ⟨by omega,by omega⟩ (by decide) W (H0.out.2.1.below (K8.out.1.2.1.trans (hb.mono K8.out.1.2.1.size)))
     have HOf:=qH hOf;rw [show ((z:Int):Rat) / ((1:Int):Rat)=eOne z from rfl] at HOf;obtain⟨zn1,zn2,hzn⟩:=qb5 (eOne z);rw [hzn] at HOf;have HZn:=qH hzn;clear hz hzr hOf hzn;go_wp2_with fail;refine (HOf.out w9 HB9.out).mono ?_;rintro e v1 ⟨rfl,hb⟩;replace rS:=qH (zkeep hb _ _ rS.out);replace KB:=Kn.below KB hb;replace HFt:=qH (HFt.out.below hb);clear hb o0;obtain⟨V1,hV,N⟩:=nw1 v1 #[.string zn1,.string zn2] 44;go_upto_region 31 with fail;rw [<-hV];replace rS:=qH (zkeep N.out.1 _ _ rS.out);replace KB:=Kn.below KB N.out.1;replace HFt:=qH (HFt.out.below N.out.1);have rW:=qH N.out.2;clear hV N HB9 HOf;have HBv:Hid (Below w8.heap.size w8 V1):=qH (HBi.out.trans (KB.out.mono HBi.out.size));obtain⟨x0,x1⟩:=HFt.out.cell t (by rw [qbV];exact htM);obtain rfl:=HFt.out.addr (by rw [qbV];omega);rw [qdj htM,qaI] at x0 x1;obtain⟨r0,r1⟩:=(K8.below HBv.out).out.2.cell (i*3+c) (by rw [qbV];omega);rw [qdj (show i*3+c<m*3 by omega),qaI,HLw.out.2.1 c i hc3 him,show (i*3+c)*2=i*6+c*2 by omega] at r0 r1;have hT0:tqf l k i t=termQ k pt.dev t:=by unfold tqf;rw [HD.out.2.2.2]
     rw [<-hT0] at x0 x1;have hiL:i<l.length:=by rw [HPC.out.2.2.2.2];exact him
     have HM1:=qH fun (W:World) (hb:Below w8.heap.size w8 W)=>mulq (p:=tqf l k i t) (q:=rr l k X c i) (HLw.out.1.term i t hiL) (HLw.out.1.res c i hc3 hiL) (HLw.out.1.y1 t c i hc3 hiL) W (H0.out.2.1.below (K8.out.1.2.1.trans (hb.mono K8.out.1.2.1.size)))
     rw [show tqf l k i t*rr l k X c i=sy1 l k X t c i from rfl] at HM1;obtain⟨tx1,tx2,htx⟩:=qb5 (tqf l k i t);obtain⟨rx1,rx2,hrx⟩:=qb5 (rr l k X c i);obtain⟨ya1,ya2,hya⟩:=qb5 (sy1 l k X t c i);rw [htx] at x0 x1 HM1;rw [hrx] at r0 r1 HM1;rw [hya] at HM1;have HYa:=qH hya;have X0:∀W,Below V1.heap.size V1 W->W.cell? ⟨tg,t*2,none⟩=some (.string tx1):=fun W hb=>(hb.cell (qac _ _ x0)).trans x0
     have X1:∀W,Below V1.heap.size V1 W->W.cell? ⟨tg,t*2+1,none⟩=some (.string tx2):=fun W hb=>(hb.cell (qac _ _ x1)).trans x1
     have R0:∀W,Below V1.heap.size V1 W->W.cell? ⟨gz,i*6+c*2,none⟩=some (.string rx1):=fun W hb=>(hb.cell (qac _ _ r0)).trans r0
     have R1:∀W,Below V1.heap.size V1 W->W.cell? ⟨gz,i*6+c*2+1,none⟩=some (.string rx2):=fun W hb=>(hb.cell (qac _ _ r1)).trans r1
     clear x0 x1 r0 r1 htx hrx hya hT0
     go_cut [23] (fun x23 W=>∃g:Nat,x23=.pointer (some ⟨g,0,none⟩)/\Hid (V1.heap.size<=g/\W.heap[g]? = some (.cells #[.string ya1,.string ya2] 44 (0,0))/\Below V1.heap.size V1 W))
     case first =>
      refine wp_region_held_drew (S:=fun W=>Below V1.heap.size V1 W) (by kernel_rfl) qB.drew (fun hS0=>?_);refine hT 0 (h:=hT 1 (h:=hT 2 (h:=hT 3 (h:=hT 4 (h:=hT 5 (h:=hT 6 (h:=hT 7 (h:=hT 8 (h:=hT 9 (h:=?_))))))))));refine hd_two 10 14 rfl rfl (by kernel_rfl) (fun K hK=>?_) (fun K hK=>?_)
      ·rw [if_pos (by rfl)];refine qjO (by (go_simp <;> with_reducible rfl)) (HM1.out _ (HBv.out.trans (qB.drew.mono HBv.out.size))) fun e w4 ⟨e1,hb4⟩=>⟨_,e1,?_⟩
       have hS4:=qb0 hb4;refine hK.on (fun W=>Below V1.heap.size V1 W) _ _ (fun _ h=>h) hS4 fun _=>hN (h:=?_)
       refine hT 11 (h:=hT 12 (h:=hT 13 (h:=?_)));have hS5:Below V1.heap.size V1 (w4.alloc (.cells #[.string ⟨#[]⟩,.string ⟨#[]⟩] 44)):=qbQ hS4 qN;refine hE 14 (h:=⟨hS5,hN (h:=?_)⟩);have hr4:=qM w4 (.cells #[.string ⟨#[]⟩,.string ⟨#[]⟩] 44) _ rfl;have hS6:=qS hS5 hS4.size #[.string ya1,.string ya2];have HH:=qH (qA hS4.size (qA (qT _ _ _ #[.string ya1,.string ya2] _ _ hr4) hS6));refine hSn 15 2 hr4 (h:=⟨hS6,?_⟩);refine hT 16 (h:=?_);refine wpAnyH_done (by kernel_rfl) ?_ _;clear hS5 hS4 hS6 hr4 hb4;go_wp2;go_meet;exact⟨_,rfl,HH⟩
      ·rw [if_pos (by rfl)];have hS4:Below V1.heap.size V1 (V1.drew.alloc (.cells #[.string ⟨#[]⟩,.string ⟨#[]⟩] 44)):=qbQ qB.drew qN;refine qku (by (go_simp <;> first | with_reducible rfl | exact⟨rfl,rfl⟩ | rfl)) (hK.on (fun W=>Below V1.heap.size V1 W) _ _ (fun _ h=>h) hS4 fun _=>hN (h:=?_));have hr4:=qM V1.drew (.cells #[.string ⟨#[]⟩,.string ⟨#[]⟩] 44) _ rfl;refine hC 10 (HM1.out _ (HBv.out.trans (hS4.mono HBv.out.size))) (h:=fun e w4 ⟨e1,hb4⟩=>⟨_,e1,hS4.trans (hb4.mono hS4.size),hN (h:=?_)⟩);have hS5:=hS4.trans (hb4.mono hS4.size);refine hT 11 (h:=hT 12 (h:=hT 13 (h:=?_)));have hr5:=zkeep hb4 _ _ hr4;have hS6:=qS hS5 (show V1.heap.size<=V1.drew.heap.size from qad _) #[.string ya1,.string ya2];have HH:=qH (qA (show V1.heap.size<=V1.drew.heap.size from qad _) (qA (qT _ _ _ #[.string ya1,.string ya2] _ _ hr5) hS6));refine hSn 15 2 hr5 (h:=⟨hS6,?_⟩);refine hT 16 (h:=?_);refine wpAnyH_done (by kernel_rfl) ?_ _;clear hS5 hS4 hS6 hr4 hr5 hb4;go_wp2;go_meet;exact⟨_,rfl,HH⟩
     case rest =>
      obtain⟨gy,rfl,HH1⟩:=hcut;have HB2:Hid (Below wr.heap.size wr wc):=qH (KB.out.trans (HH1.out.2.2.mono KB.out.size));have hgy:wr.heap.size<=gy:=qaj KB.out.size HH1.out.1;have hgq:wq.heap.size<wr.heap.size:=HSl.out;replace rS:=qH (zkeep HH1.out.2.2 _ _ rS.out);replace rW:=qH (zkeep HH1.out.2.2 _ _ rW.out);have rY:=qH HH1.out.2.1;have HM2:=qH fun (W:World) (hb:Below w8.heap.size w8 W)=>mulq (p:=sy1 l k X t c i) (q:=eOne (ws.getD i 0)) (HLw.out.1.y1 t c i hc3 hiL) (HLw.out.1.one i hiL) (HLw.out.1.y2 t c i hc3 hiL) W (H0.out.2.1.below (K8.out.1.2.1.trans (hb.mono K8.out.1.2.1.size)))
      rw [show sy1 l k X t c i*eOne (ws.getD i 0)=sy2 l k ws X t c i from rfl] at HM2;have HA2:=qH fun (W:World) (hb:Below w8.heap.size w8 W)=>addq (p:=sps l k ws X t c i) (q:=sy2 l k ws X t c i) (HLw.out.1.ps t c i hc3 (by omega)) (HLw.out.1.y2 t c i hc3 hiL) (HLw.out.1.ps t c (i+1) hc3 (by omega)) W (H0.out.2.1.below (K8.out.1.2.1.trans (hb.mono K8.out.1.2.1.size)))
      rw [<-sps_succ] at HA2;obtain⟨yb1,yb2,hyb⟩:=qb5 (sy2 l k ws X t c i);obtain⟨sn1,sn2,hsn⟩:=qb5 (sps l k ws X t c (i+1));rw [HYa.out,HZ.out,HZn.out,hyb] at HM2;rw [HSo.out.2.1,hyb,hsn] at HA2;have HSn:=qH hsn;clear hyb hsn HH1 HM1 X0 X1 R0 R1;have y0:=qC _ _ 0 _ _ _ rY.out;have y1:=qC _ _ 1 _ _ _ rY.out;have u0:=qC _ _ 0 _ _ _ rW.out;have u1:=qC _ _ 1 _ _ _ rW.out;go_wp2_with fail;refine (HM2.out wc (HBi.out.trans (HB2.out.mono HBi.out.size))).mono ?_;rintro e v4 ⟨rfl,hb⟩;replace rS:=qH (zkeep hb _ _ rS.out);replace rY:=qH (zkeep hb _ _ rY.out);replace HB2:=qH (HB2.out.trans (hb.mono HB2.out.size));clear hb y0 y1 u0 u1;obtain⟨V4,hV⟩:∃V,V=v4.setRow gy #[.string yb1,.string yb2]:=⟨_,rfl⟩
      go_upto_region 33 with ((with_reducible refine sR_ rfl 44 _ _ rfl (gy) #[.string yb1,.string yb2] rY.out 2 ?_))
      rw [<-hV];replace rS:=qH (hV▸(setRow_other _ _ _ _ (by omega)).trans rS.out);replace rY:=qH (hV▸qT _ _ _ _ _ _ rY.out);replace HB2:=qH (hV▸qS HB2.out hgy #[.string yb1,.string yb2]);clear hV;have y0:=qC _ _ 0 _ _ _ rY.out;have y1:=qC _ _ 1 _ _ _ rY.out;have u0:=qC _ _ 0 _ _ _ rS.out;have u1:=qC _ _ 1 _ _ _ rS.out;go_wp2_with fail;refine (HA2.out V4 (HBi.out.trans (HB2.out.mono HBi.out.size))).mono ?_;rintro e v5 ⟨rfl,hb⟩;replace rS:=qH (zkeep hb _ _ rS.out);replace HB2:=qH (HB2.out.trans (hb.mono HB2.out.size));clear hb y0 y1 u0 u1 rY;have hlt:wq.heap.size<v5.heap.size:=qag hgq HB2.out.size;have HN:Hid (SuSt wq (v5.setRow wq.heap.size #[.string sn1,.string sn2]) wq.heap.size (sps l k ws X t c (i+1))):=qH ⟨qS (HSo.out.1.trans (HB2.out.mono HSo.out.1.size)) qN _,⟨_,_,HSn.out,qT _ _ _ _ _ _ rS.out⟩,by rw [size_setRow];exact hlt⟩;clear hlt hgq hgy
      go_wp2_with ((with_reducible refine sR_ rfl 44 _ _ rfl (wq.heap.size) #[.string sn1,.string sn2] rS.out 2 ?_))
      go_roundw
      case rel=>exact⟨i+1,by go_num,him,HN⟩
      case measure=>simp [RowKit.intOf];omega
