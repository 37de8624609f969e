import Derived.Test.YtjalhnlhcdfncaaGreatDoorBo20
set_option maxRecDepth 100000
set_option maxHeartbeats 0
namespace Go.Proofs.YtjalhnlhcdfncaaGreatDoor.p4
open Go.RowKit Go.Lib Go.Proofs.Tryz
theorem conv4 (E F H I:UInt8) (n0 n1 n2 J:Int) (O:n0=(E.toNat:Nat)) (U:n1=(F.toNat:Nat)) (V:n2=(H.toNat:Nat)) (Y:J=(I.toNat:Nat)) (W:World) :
  (convert 299 9 (.slice (some ⟨W.heap.size,0,none⟩) 4 4)).run prog (W.alloc (.cells #[.int .u8 n0,.int .u8 n1,.int .u8 n2,.int .u8 J] 5))=.ok (.string ⟨#[E,F,H,I]⟩) (W.alloc (.cells #[.int .u8 n0,.int .u8 n1,.int .u8 n2,.int .u8 J] 5)):=by
 subst O U V Y;refine run_convert_bytes_back (P:=prog) _ 299 9 5 ⟨W.heap.size,0,none⟩ 4 [E,F,H,I] underlying299 underlying5 underlying9 ?_;intro j Z;have hg:=heap_alloc_new W (.cells #[.int .u8 (E.toNat:Nat),.int .u8 (F.toNat:Nat),.int .u8 (H.toNat:Nat),.int .u8 (I.toNat:Nat)] 5)
 match j,Z with
 | 0,_=>exact qC _ _ 0 _ _ _ hg
 | 1,_=>exact qC _ _ 1 _ _ _ hg
 | 2,_=>exact qC _ _ 2 _ _ _ hg
 | 3,_=>exact qC _ _ 3 _ _ _ hg
def grp (d:Nat):ByteArray:=⟨(padk 4 d).toArray⟩
theorem grp_size (d:Nat):(grp d).size=4:=by
 show (padk 4 d).toArray.size=4
 rw [qbX,qgW]
theorem four_any (d:Nat) (V:d<10000) (w:World) :
  Calls prog 205 #[.int .i64 (d:Int)] w fun e w'=>e=.returned (.string (grp d))/\Below w.heap.size w w':=by
 obtain⟨a,J⟩:=qX (d / 1000);obtain⟨b,O⟩:=qX (d / 100);obtain⟨b',F⟩:=qX (b % 10);obtain⟨c,U⟩:=qX (d / 10);obtain⟨E,H⟩:=qX (c % 10);obtain⟨e,he⟩:=qX (d % 10);have hg:grp d=⟨#[UInt8.ofNat (48+a),UInt8.ofNat (48+b'),UInt8.ofNat (48+E),UInt8.ofNat (48+e)]⟩:=by
  unfold grp;simp only [padk];rw [show d / 10 / 10 / 10 % 10=a by omega,show d / 10 / 10 % 10=b' by omega,show d / 10 % 10=E by omega,he]
  rfl
 have I:=conv4 (UInt8.ofNat (48+a)) (UInt8.ofNat (48+b')) (UInt8.ofNat (48+E)) (UInt8.ofNat (48+e)) (48+(a:Int)) (48+(b':Int)) (48+(E:Int)) (48+(e:Int)) (by rw [qcI (by omega)];omega) (by rw [qcI (by omega)];omega) (by rw [qcI (by omega)];omega) (by rw [qcI (by omega)];omega) w;rw [<-hg] at I;have t1:(d:Int) / 1000=a:=by omega
 have t2:(d:Int) / 100=b:=by omega
 have t3:(b:Int) % 10=b':=by omega
 have t4:(d:Int) / 10=c:=by omega
 have t5:(c:Int) % 10=E:=by omega
 have t6:(d:Int) % 10=e:=by omega
 have l1:a<10:=by omega
 have l2:b<100:=by omega
 have Y:c<1000:=by omega
 have Z:b'<10:=by omega
 have l5:E<10:=by omega
 have l6:e<10:=by omega
 clear J O F U H he hg;generalize grp d=G at *;go_enter func205,ntmps205;go_wp2;go_ret;exact⟨rfl,qb4 qB qN⟩
theorem ne_empty {a:ByteArray} (h:a.size≠0):a.toList.isEmpty=false:=by
 rw [ByteArray.toList_eq];cases e:a.data.toList with
 | nil=>exact absurd (show a.size=0 by show a.data.size=0;rw [<-qa9,e];rfl) h
 | cons x l=>rfl
theorem qlR (z:Int) (K:Nat) (hK:K<=17592186000000) (v:Value) (w:World) (hv:qca w v z) (hz:Fit z.natAbs K) :
  Calls prog 138 #[v] w fun e w'=>e=.returned (.string (qcj z))/\Below w.heap.size w w':=by
 obtain⟨m,rfl,am,bm,om,cm,n,M,rfl,Im,au⟩:=hv;have hn:n<=K:=by rw [<-au] at hz;exact hz.len Im
 obtain⟨zc,aG⟩:=qnH Im.dig;have H:=qnG M;rw [Im.len] at H;have aR:=qfz (z:=z);have aS:=qeb (z:=z);rw [au] at aG;have ak:=qH (qA aR aS);obtain⟨WT,ay⟩:=qX (qcj z);rw [ay];have aj:=qH ay;clear ay;have bg:=qH aG;have bf:=qH H;have HM:=qH Im;have J:Below w.heap.size w (w.alloc (.cells #[.bool (decide (z<0)),.slice am n cm] 105)):=qb4 qB qN;obtain⟨bz,az⟩:=qX (decide (z<0));rw [az] at J ⊢;have aI:=qH az;obtain⟨W1,Z⟩:=qY (w.alloc (.cells #[.bool bz,.slice am n cm] 105));have aF:W1.heap[w.heap.size]? = some (.cells #[.bool bz,.slice am n cm] 105 (0,0)):=by rw [Z];exact qM _ _ _ rfl
 rw [<-Z] at J;have HW:=qH (qA J aF);have aM:=Im.below J;have aY:=qH aM;clear aR aS aG H Im au hz az J aM;go_enter func138,ntmps138;go_wp2_with fail;rw [<-Z];clear Z;have k1:=qC W1 _ 1 _ _ _ aF;clear aF;go_wp2_with fail
 go_loopw [3,4] (fun x3 x4 W=>∃(k:Nat) (zz:Int) (t:ByteArray),k<=n/\x4=.int .i64 zz/\Hu (zz+1=k)/\x3=.string t/\Hu (t.data.toList=gtx (M.drop k))/\Hu (Below W1.heap.size W1 W)) (fun _ x4 _=>(RowKit.intOf x4+1).toNat)
 case atStart=>exact⟨n,_,⟨#[]⟩,qad _,rfl,qH (by omega),rfl,qH (by rw [qaM (by rw [HM.o.len];exact qad _)];rfl),qH qB⟩
 case round =>
  obtain⟨k,zz,t,hk,rfl,aX,rfl,ht,hB⟩:=hrel;have aa:=(hB.o.block w.heap.size (qG HW.o.2).1).trans HW.o.2;have k1:=qC wr _ 1 _ _ _ aa;have k0:=qC wr _ 0 _ _ _ aa;have bC:=qH aa;clear aa
  by_cases bH:0<k
  ·obtain⟨j,rfl⟩:∃j,k=j+1:=⟨k-1,by omega⟩;obtain rfl:zz=(j:Int):=by have:=aX.o;omega
   have bG:(j:Int)<n:=by omega
   have bq:=HM.o.addr (by omega);subst bq;have bu:=(aY.o.below hB.o).cell j (by omega);have aA:dg M j<10000:=HM.o.dig j;have aB:=gtx_drop (L:=M) (j:=j) (by rw [HM.o.len];omega);obtain⟨d,hd⟩:=qX (dg M j);rw [hd] at bu aA aB;have ae:t.size=4*(n-(j+1)):=by
    have:t.size=t.data.toList.length:=by rw [qa9];rfl
    rw [this,ht.o,qnG,qaY,HM.o.len]
   have HF:=qH (four_any d aA);have bv:=grp_size d;have af:∀W,(Op.stringOp .add t (grp d)).run prog W=.ok (.string (t++grp d)) W:=fun W=>run_string_add_sum W _ _ (by omega)
   have ah:(t++grp d).data.toList=gtx (M.drop j):=by
    rw [ByteArray.data_append,qbr,ht.o,aB];rfl
   have aK:=qH ah;generalize grp d=G at *;clear ah bv ae aB hd aA
   go_wp2_with (go_at_call 205;refine (HF.o _).mono ?_)
   rintro e w2 ⟨rfl,aP⟩;have aZ:=qH aP;clear aP;go_wp2;go_roundw
   case rel=>exact⟨j,_,_,by omega,rfl,qH (by omega),rfl,aK,qH (hB.o.trans (aZ.o.mono hB.o.size))⟩
   case measure=>simp [RowKit.intOf]
  ·obtain rfl:k=0:=by omega
   obtain rfl:zz = -1:=by have:=aX.o;omega
   have F:=ht.o;rw [List.drop_zero] at F;have ae:t.size=4*n:=by
    have:t.size=t.data.toList.length:=by rw [qa9];rfl
    rw [this,F,bf.o]
   rw [bg.o] at F;obtain⟨R,hR⟩:=qX (bare z.natAbs);rw [hR] at F;have ag:zc+R.length=4*n:=by
    have h1:t.size=t.data.toList.length:=by rw [qa9];rfl
    rw [<-ae,h1,F,qaf,qaZ]
   obtain⟨N4,aN⟩:=qX (4*n);rw [aN] at ae ag;have aO:∀i (h:i<t.size),t[i]=(List.replicate zc 48++R).getD i 0:=fun i h=>by
    have:t[i]=t.data.toList[i]'(by rw [qa9];exact h):=rfl;rw [this,<-F,qaa,qac (by rw [qa9];exact h)];rfl
   have O:t.extract zc N4=⟨R.toArray⟩:=by
    apply ByteArray.ext;rw [ByteArray.data_extract];apply Array.ext';rw [Array.toList_extract,F];simp only [List.extract,List.drop_append,qaZ,qaJ,List.drop_zero];rw [qaM (by rw [qaZ];exact qad _),qbp,qah (by omega)]
   have bD:N4<=70368744000000:=by omega
   have aH:=qH aO;have aJ:=qH O;have HR:=qH hR;have Hl:=qH ag;clear aO O hR F aN;go_wp2_with fail
   go_loopw [5] (fun x5 W=>∃k:Nat,x5=.int .i64 k/\k<=zc/\W=wr) (fun x5 _=>zc-(RowKit.intOf x5).toNat)
   case atStart=>exact⟨0,rfl,qaj _,rfl⟩
   case round =>
    obtain⟨k,rfl,bI,hW⟩:=hrel;have bn:=hW.symm;clear hW;subst bn
    by_cases aD:k<zc
    ·have Y:k<t.size:=by have:=Hl.o;omega
     have aC:(k:Int)<N4:=by have:=Hl.o;omega
     have bJ:(t[k]'Y).toNat=48:=by
      rw [aH.o k Y,qaa,qax (by rw [qaZ];exact aD),qbq,if_pos aD];rfl
     go_wp2;go_roundw
     case rel=>exact⟨k+1,by go_num,aD,trivial⟩
     case measure=>simp [RowKit.intOf];omega
    ·obtain rfl:k=zc:=by omega
     by_cases h0:z.natAbs=0
     ·have I:R=[]:=by rw [<-HR.o];unfold bare;rw [if_pos h0]
      subst I;have aC:k=N4:=by have:=Hl.o;simpa using this
      have aV:qcj z=⟨#[48]⟩:=by
       rw [ak.o.2 (by omega),h0];unfold num;rw [qcg (by decide)];rfl
      have O:=aJ.o;subst aC;rw [aj.o] at aV;subst aV;go_wp2;go_ret;exact⟨rfl,HW.o.1.trans (hB.o.mono HW.o.1.size)⟩
     ·have I:R=decDigits z.natAbs:=by rw [<-HR.o];unfold bare;rw [if_neg h0]
      have av:R≠[]:=by rw [I];exact qee _
      have bE:=List.length_pos_iff.2 av;have aC:(k:Int)<N4:=by have:=Hl.o;omega
      have bB:k<=N4:=by omega
      have Y:k<t.size:=by omega
      obtain⟨c,hc⟩:=qX ((t[k]'Y).toNat);have aQ:c≠48:=by
       rintro rfl;obtain⟨x,l,aW⟩:∃x l,R=x :: l:=by
        cases R with
        | nil=>exact absurd rfl av
        | cons x l=>exact⟨x,l,rfl⟩
       have h1:=aH.o k Y;rw [qaa,qau (by rw [qaZ];exact qad _),qaZ,qaJ,aW] at h1;replace h1:t[k]=x:=h1;rw [h1] at hc;exact qna (HR.o.trans aW) (qgi hc)
      have bF:((c:Int) == 48)=false:=by rw [beq_eq_false_iff_ne];omega
      have O:=aJ.o;have ai:(⟨R.toArray⟩:ByteArray)=num z.natAbs:=by rw [I];rfl
      rw [ai] at O;have bA:(num z.natAbs).size=R.length:=by rw [I];rfl
      have hne:=ne_empty (a:=num z.natAbs) (by omega);have aT:=ak.o.1;have aU:=ak.o.2;have aL:Hu (z<0->qcj z=⟨#[45]⟩++num z.natAbs):=qH aT;have bi:Hu (¬z<0->qcj z=num z.natAbs):=qH fun h=>aU (by omega)
      clear aT aU;generalize num z.natAbs=U at *;have af:∀W,(Op.stringOp .add ⟨#[45]⟩ U).run prog W=.ok (.string (⟨#[45]⟩++U)) W:=fun W=>run_string_add_sum W _ _ (by have:(⟨#[45]⟩:ByteArray).size=1:=rfl;have:=Hl.o;omega)
      obtain⟨V,hV⟩:=qX ((⟨#[45]⟩:ByteArray)++U);rw [hV] at af aL;clear hV I av ai aQ bA;cases bz with
      | true =>
       have E:z<0:=of_decide_eq_true aI.o;have ax:V=WT:=by rw [<-aj.o,aL.o E]
       subst ax;clear E;go_wp2;go_ret;exact⟨rfl,HW.o.1.trans (hB.o.mono HW.o.1.size)⟩
      | false =>
       have E:¬z<0:=of_decide_eq_false aI.o;have ax:U=WT:=by rw [<-aj.o,bi.o E]
       subst ax;clear E;go_wp2;go_ret;exact⟨rfl,HW.o.1.trans (hB.o.mono HW.o.1.size)⟩
def qkj (w:World) (L:List UInt8) (e:Ending) (w':World):Prop:=∃ok,e=.returned (.bool ok)/\(ok=true↔Valid L)/\w'=w
theorem qoZ {L:List UInt8} (h:0<L.length) (E:L[0].toNat=45):body L=L.drop 1/\signd L=true:=by
 cases L with
 | nil=>exact absurd h (by simp)
 | cons c t =>
  have:c=45:=qgi E;subst this;exact qgO t
theorem qlL {L:List UInt8} (h:0<L.length) (E:L[0].toNat≠45):body L=L.drop 0/\signd L=false:=by
 rw [List.drop_zero];refine qgP ?_;rw [List.head?_eq_getElem?,qac h];intro e;apply E;rw [qag e];rfl
theorem qoq {L:List UInt8} {fr:Nat} (h:∀i (E:i<L.length),fr<=i->48<=L[i].toNat/\L[i].toNat<=57):Nums (L.drop fr):=fun c F=>by
 obtain⟨i,E,rfl⟩:=List.getElem_of_mem F;rw [List.getElem_drop];exact h _ (by rw [qaY] at E;omega) (by omega)
theorem qjh {L:List UInt8} {fr:Nat} (h:fr<L.length):(L.drop fr).head? = some 48↔L[fr].toNat=48:=by
 rw [List.head?_drop,qac h];exact⟨fun e=>by rw [qag e];rfl,fun e=>congrArg some (qgi e)⟩
theorem qoD (s:ByteArray) (n:Nat) (hn:s.size=n) (h0:0<n) (aJ:n<=140737488355328) (aa:(s[0]'(by omega)).toNat=45) (w:World) :
  Calls prog 137 #[.string s] w fun e w'=>qkj w s.data.toList e w':=by
 obtain⟨L,hL⟩:=qX s.data.toList;have af:L.length=n:=by rw [<-hL,<-hn,qa9];rfl
 have ag:∀k (h:k<s.size) (h':k<L.length),s[k]=L[k]:=fun k h h'=>by subst hL;rfl
 have V:0<s.size:=by omega
 have aj:=qoZ (L:=L) (by omega) (by rw [<-ag 0 V (by omega)];exact aa);have hV:Valid L↔Nums (L.drop 1)/\0<(L.drop 1).length/\(L.drop 1).length<=600/\((L.drop 1).head? = some 48->(L.drop 1).length=1/\False):=by
  rw [<-aj.1];have h2:=aj.2;exact⟨fun h=>⟨h.nums,h.pos,h.le,fun e=>⟨(h.lead e).1,by have:=(h.lead e).2;rw [h2] at this;cases this⟩⟩,fun h=>⟨h.1,h.2.1,h.2.2.1,fun e=>⟨(h.2.2.2 e).1,False.elim (h.2.2.2 e).2⟩⟩⟩
 rw [hL];rw [qaY,af] at hV;obtain⟨c0,ah⟩:=qX ((s[0]'V).toNat);have aK:=ah;rw [ah] at aa;have aN:((c0:Int) == 45)=true:=by rw [beq_iff_eq];omega
 have HV:=qH hV;have ak:=qH ag;have HL:=qH af;have Hn:=qH hn;have aL:(0:Int)<n:=by omega
 clear hV aj hL af ag ah;subst aa
 by_cases h1:n-1<1
 ·have E:¬Valid L:=fun h=>by have:=HV.o.1 h;omega
  have aD:(n:Int)-1<1:=by omega
  have J:=qH E;clear E
  skip
  go_enter func137,ntmps137;go_wp2;go_ret;exact⟨false,rfl,qc5 J.o,rfl⟩
 have aD:¬(n:Int)-1<1:=by omega
 by_cases h6:600<n-1
 ·have E:¬Valid L:=fun h=>by have:=HV.o.1 h;omega
  have aF:(600:Int)<(n:Int)-1:=by omega
  have J:=qH E;clear E;go_enter func137,ntmps137;go_wp2;go_ret;exact⟨false,rfl,qc5 J.o,rfl⟩
 have aF:¬(600:Int)<(n:Int)-1:=by omega
 go_enter func137,ntmps137;go_wp2_with fail
 go_loopw [5] (fun x5 W=>∃k:Nat,x5=.int .i64 k/\1<=k/\k<=n/\W=w/\Hu (∀i (hi:i<L.length),1<=i->i<k->48<=L[i].toNat/\L[i].toNat<=57)) (fun x5 _=>n-(RowKit.intOf x5).toNat)
 case atStart=>exact⟨1,rfl,qad _,by omega,rfl,qH (fun i _ h1 h2=>by omega)⟩
 case round =>
  obtain⟨k,rfl,aP,hk,hW,hI⟩:=hrel;have aG:=hW.symm;clear hW;subst aG
  by_cases ai:k<n
  ·have aQ:(k:Int)<n:=by omega
   have ae:k<L.length:=by rw [HL.o];exact ai
   have az:k<s.size:=by rw [Hn.o];exact ai
   have I:=ak.o k az ae;obtain⟨c,F⟩:=qX (L[k].toNat);have aH:(s[k]'az).toNat=c:=by rw [I,F]
   have Z:=qH F;clear F I
   by_cases g1:c<48
   ·have E:¬Valid L:=fun h=>by
     have:=(HV.o.1 h).1 (L[k]) (qbC (i:=k-1) (by rw [List.getElem?_drop,show 1+(k-1)=k by omega,qac ae]));rw [Z.o] at this;omega
    have aB:(c:Int)<48:=by omega
    have J:=qH E;clear E;go_wp2;go_ret;exact⟨false,rfl,qc5 J.o,rfl⟩
   ·have aB:¬(c:Int)<48:=by omega
    by_cases g2:57<c
    ·have E:¬Valid L:=fun h=>by
      have:=(HV.o.1 h).1 (L[k]) (qbC (i:=k-1) (by rw [List.getElem?_drop,show 1+(k-1)=k by omega,qac ae]));rw [Z.o] at this;omega
     have aC:(57:Int)<c:=by omega
     have J:=qH E;clear E;go_wp2;go_ret;exact⟨false,rfl,qc5 J.o,rfl⟩
    ·have aC:¬(57:Int)<c:=by omega
     have aA:Hu (∀i (hi:i<L.length),1<=i->i<k+1->48<=L[i].toNat/\L[i].toNat<=57):=qH fun i hi h1 h2=>by
      by_cases e:i=k
      ·subst e;rw [Z.o];omega
      ·exact hI.o i hi h1 (by omega)
     go_wp2;go_roundw
     case rel=>exact⟨k+1,by go_num,by omega,ai,trivial,aA⟩
     case measure=>simp [RowKit.intOf];omega
  ·obtain rfl:k=n:=by omega
   have U:Nums (L.drop 1):=qoq fun i hi h1=>hI.o i hi h1 (by rw [<-HL.o];exact hi)
   have aO:(1:Int)<k:=by omega
   have ay:1<s.size:=by rw [Hn.o];omega
   have av:1<L.length:=by rw [HL.o];omega
   have H:=qjh (L:=L) (fr:=1) av;have I:=ak.o 1 ay av;obtain⟨c,F⟩:=qX (L[1].toNat);have aH:(s[1]'ay).toNat=c:=by rw [I,F]
   rw [F] at H;have Hh:=qH H;have au:=qH U;clear F I U H
   by_cases O:c=48
   ·subst O;have ax:((48:Int) != 48)=false:=by decide
    by_cases aI:k=1
    ·omega
    ·have E:¬Valid L:=fun h=>by have:=(HV.o.1 h).2.2.2 (Hh.o.2 rfl);exact this.2
     have J:=qH E;have aM:((k:Int) == 1)=false:=by rw [beq_eq_false_iff_ne];omega
     clear E;go_wp2;go_ret;exact⟨false,rfl,qc5 J.o,rfl⟩
   ·have ax:((c:Int) != 48)=true:=by rw [bne_iff_ne];omega
    have Y:Valid L:=HV.o.2 ⟨au.o,by omega,by omega,fun e=>absurd (Hh.o.1 e) O⟩;have HY:=qH Y;clear Y;go_wp2;go_ret;exact⟨true,rfl,qfF HY.o,rfl⟩
theorem qoE (s:ByteArray) (n:Nat) (hn:s.size=n) (h0:0<n) (aL:n<=140737488355328) (au:(s[0]'(by omega)).toNat≠45) (w:World) :
  Calls prog 137 #[.string s] w fun e w'=>qkj w s.data.toList e w':=by
 obtain⟨L,hL⟩:=qX s.data.toList;have af:L.length=n:=by rw [<-hL,<-hn,qa9];rfl
 have ag:∀k (h:k<s.size) (h':k<L.length),s[k]=L[k]:=fun k h h'=>by subst hL;rfl
 have Z:0<s.size:=by omega
 have aj:=qlL (L:=L) (by omega) (by rw [<-ag 0 Z (by omega)];exact au);have hV:Valid L↔Nums (L.drop 0)/\0<(L.drop 0).length/\(L.drop 0).length<=600/\((L.drop 0).head? = some 48->(L.drop 0).length=1/\True):=by
  rw [<-aj.1];have h2:=aj.2;exact⟨fun h=>⟨h.nums,h.pos,h.le,fun e=>⟨(h.lead e).1,by have:=(h.lead e).2;trivial⟩⟩,fun h=>⟨h.1,h.2.1,h.2.2.1,fun e=>⟨(h.2.2.2 e).1,h2⟩⟩⟩
 rw [hL];rw [qaY,af] at hV;obtain⟨c0,ah⟩:=qX ((s[0]'Z).toNat);have az:=ah;rw [ah] at au;have aN:((c0:Int) == 45)=false:=by rw [beq_eq_false_iff_ne];omega
 have HV:=qH hV;have ak:=qH ag;have HL:=qH af;have Hn:=qH hn;have aM:(0:Int)<n:=by omega
 clear hV aj hL af ag ah
 by_cases h1:n-0<1
 ·have E:¬Valid L:=fun h=>by have:=HV.o.1 h;omega
  have aF:(n:Int)-0<1:=by omega
  have O:=qH E;clear E;exact absurd h1 (by omega)
 have aF:¬(n:Int)-0<1:=by omega
 by_cases h6:600<n-0
 ·have E:¬Valid L:=fun h=>by have:=HV.o.1 h;omega
  have aG:(600:Int)<(n:Int)-0:=by omega
  have O:=qH E;clear E;go_enter func137,ntmps137;go_wp2;go_ret;exact⟨false,rfl,qc5 O.o,rfl⟩
 have aG:¬(600:Int)<(n:Int)-0:=by omega
 go_enter func137,ntmps137;go_wp2_with fail
 go_loopw [5] (fun x5 W=>∃k:Nat,x5=.int .i64 k/\0<=k/\k<=n/\W=w/\Hu (∀i (hi:i<L.length),0<=i->i<k->48<=L[i].toNat/\L[i].toNat<=57)) (fun x5 _=>n-(RowKit.intOf x5).toNat)
 case atStart=>exact⟨0,rfl,qad _,by omega,rfl,qH (fun i _ h1 h2=>by omega)⟩
 case round =>
  obtain⟨k,rfl,aP,hk,hW,hI⟩:=hrel;have aH:=hW.symm;clear hW;subst aH
  by_cases ai:k<n
  ·have aQ:(k:Int)<n:=by omega
   have ae:k<L.length:=by rw [HL.o];exact ai
   have aA:k<s.size:=by rw [Hn.o];exact ai
   have J:=ak.o k aA ae;obtain⟨c,H⟩:=qX (L[k].toNat);have aJ:(s[k]'aA).toNat=c:=by rw [J,H]
   have aa:=qH H;clear H J
   by_cases g1:c<48
   ·have E:¬Valid L:=fun h=>by
     have:=(HV.o.1 h).1 (L[k]) (qbC (i:=k-0) (by rw [List.getElem?_drop,show 0+(k-0)=k by omega,qac ae]));rw [aa.o] at this;omega
    have aC:(c:Int)<48:=by omega
    have O:=qH E;clear E;go_wp2;go_ret;exact⟨false,rfl,qc5 O.o,rfl⟩
   ·have aC:¬(c:Int)<48:=by omega
    by_cases g2:57<c
    ·have E:¬Valid L:=fun h=>by
      have:=(HV.o.1 h).1 (L[k]) (qbC (i:=k-0) (by rw [List.getElem?_drop,show 0+(k-0)=k by omega,qac ae]));rw [aa.o] at this;omega
     have aD:(57:Int)<c:=by omega
     have O:=qH E;clear E;go_wp2;go_ret;exact⟨false,rfl,qc5 O.o,rfl⟩
    ·have aD:¬(57:Int)<c:=by omega
     have aB:Hu (∀i (hi:i<L.length),0<=i->i<k+1->48<=L[i].toNat/\L[i].toNat<=57):=qH fun i hi h1 h2=>by
      by_cases e:i=k
      ·subst e;rw [aa.o];omega
      ·exact hI.o i hi h1 (by omega)
     go_wp2;go_roundw
     case rel=>exact⟨k+1,by go_num,by omega,ai,trivial,aB⟩
     case measure=>simp [RowKit.intOf];omega
  ·obtain rfl:k=n:=by omega
   have Y:Nums (L.drop 0):=qoq fun i hi h1=>hI.o i hi h1 (by rw [<-HL.o];exact hi)
   have aO:(0:Int)<k:=by omega
   have ay:0<s.size:=by rw [Hn.o];omega
   have av:0<L.length:=by rw [HL.o];omega
   have I:=qjh (L:=L) (fr:=0) av;have J:=ak.o 0 ay av;obtain⟨c,H⟩:=qX (L[0].toNat);have aJ:(s[0]'ay).toNat=c:=by rw [J,H]
   rw [H] at I;have Hh:=qH I;have U:=qH Y;clear H J Y I az
   by_cases V:c=48
   ·subst V;have ax:((48:Int) != 48)=false:=by decide
    by_cases aK:k=1
    ·skip
     have F:Valid L:=HV.o.2 ⟨U.o,by omega,by omega,fun _=>⟨by omega,trivial⟩⟩;have HY:=qH F;have aI:((k:Int) == 1)=true:=by rw [beq_iff_eq];omega
     clear F;go_wp2;go_ret;exact⟨true,rfl,qfF HY.o,rfl⟩
    ·have E:¬Valid L:=fun h=>by have:=(HV.o.1 h).2.2.2 (Hh.o.2 rfl);omega
     have O:=qH E;have aI:((k:Int) == 1)=false:=by rw [beq_eq_false_iff_ne];omega
     clear E;go_wp2;go_ret;exact⟨false,rfl,qc5 O.o,rfl⟩
   ·have ax:((c:Int) != 48)=true:=by rw [bne_iff_ne];omega
    have F:Valid L:=HV.o.2 ⟨U.o,by omega,by omega,fun e=>absurd (Hh.o.1 e) V⟩;have HY:=qH F;clear F;go_wp2;go_ret;exact⟨true,rfl,qfF HY.o,rfl⟩
theorem qjV (s:ByteArray) (E:s.size<=140737488355328) (w:World) :
  Calls prog 137 #[.string s] w fun e w'=>qkj w s.data.toList e w':=by
 by_cases I:0<s.size
 ·by_cases F:(s[0]'I).toNat=45
  ·exact qoD s _ rfl I E F w
  ·exact qoE s _ rfl I E F w
 ·obtain⟨n,Y⟩:=qX s.size;have H:¬Valid s.data.toList:=fun h=>by
   have O:=h.pos;have V:s.data.toList=[]:=qbk.1 (by rw [qa9];show s.size=0;omega);rw [V] at O;exact absurd O (by decide)
  have J:n=0:=by omega
  subst J;have U:=qH H;clear H I;go_enter func137,ntmps137;go_wp2;go_ret;exact⟨false,rfl,qc5 U.o,rfl⟩
theorem in_neg (s:ByteArray) (n:Nat) (hn:s.size=n) (h0:0<n) (af:(s[0]'(by omega)).toNat=45) (hs:Valid s.data.toList) (w:World) :
  Calls prog 101 #[.string s] w fun e w'=>∃v,e=.returned v/\Below w.heap.size w w'/\qca w' v (ival s.data.toList):=by
 obtain⟨L,hL⟩:=qX s.data.toList;have aj:L.length=n:=by rw [<-hL,<-hn,qa9];rfl
 have au:∀k (h:k<s.size) (h':k<L.length),s[k]=L[k]:=fun k h h'=>by subst hL;rfl
 have ae:0<s.size:=by omega
 have V:=qoZ (L:=L) (by omega) (by rw [<-au 0 ae (by omega)];exact af);rw [hL] at hs ⊢;have H:=hs.nums;have aL:=hs.le;have aa:=hs.pos;have ay:ival L=if true=true then -(dval (L.drop 1):Int) else dval (L.drop 1):=by unfold ival;rw [V.2,V.1]
 rw [V.1] at H aL aa;rw [qaY,aj] at aL aa;obtain⟨Bd,O⟩:=qX (L.drop 1);have aD:Bd.length=n-1:=by rw [<-O,qaY,aj]
 have Z:∀k (h:1+k<s.size) (h':k<Bd.length),s[1+k]=Bd[k]:=fun k h h'=>by subst O;rw [au _ h (by omega)];simp [Nat.add_comm]
 rw [O] at ay H;rw [ay];obtain⟨c0,av⟩:=qX ((s[0]'ae).toNat);have aP:=av;rw [av] at af;have bi:((c0:Int) == 45)=true:=by rw [beq_iff_eq];omega
 have aX:=qH Z;have HL:=qH (qA aD (qA hn H));have bC:(0:Int)<n:=by omega
 obtain⟨W1,U⟩:=qY (w.alloc (.cells #[.bool false,.slice none 0 0] 105));have aH:Below w.heap.size w W1:=U▸qb4 qB qN;have aO:W1.heap[w.heap.size]? = some (.cells #[.bool false,.slice none 0 0] 105 (0,0)):=by rw [U];exact qM _ _ _ rfl
 have Y:=qH (qA aH aO);clear aH aO hs V hL aj au av aD Z H ay O;subst af;have bH:n<=601:=by omega
 go_enter func101,ntmps101;go_wp2_with fail;rw [<-U];clear U aP bi
 go_loopw [4,5,6,7] (fun x4 x5 x6 x7 W=>∃(z:Int) (e k:Nat) (S:List Nat),x5=.int .i64 z/\-4<=z/\z<=n/\(1<z->z=1+e)/\(z<=1->e=0)/\k+e<=n+4/\Hu (Dig S)/\Hu (S.length=k)/\Hu (mval S+10000 ^ k*dval (Bd.take e)=dval Bd)/\Hu (W.ownsRow W1.heap.size 3 1 x4 k (row64 S))/\Hu (Below W1.heap.size W1 W)) (fun _ x5 _ _ _=>(RowKit.intOf x5+4).toNat)
 case atStart=>exact⟨n,n-1,0,[],rfl,by omega,Int.le_refl _,by omega,by omega,by omega,qH Dig.nil,qH rfl,qH (by rw [qah (by rw [HL.o.1];exact qad _)];simp [mval]),qH (World.ownsRow_nil _ _ _ _),qH qB⟩
 case round =>
  obtain⟨z,e,k,S,rfl,bz,bA,aV,aU,bq,hD,aF,hI,hO,hB⟩:=hrel;have bB:=hB.o.size
  by_cases aK:1<z
  ·obtain rfl:z=1+e:=aV aK;have bD:0<e:=by omega
   have bF:(1:Int)<1+(e:Int):=by omega
   have Hz:=qH (qA bA bq);have bE:1+e<=n:=by omega
   clear aV aU bz aK;go_upto_region 9 with fail
   go_cut [7] (fun x7 W=>∃E:Nat,x7=.int .i64 ((1+E:Nat):Int)/\W=wr/\Hu ((E=0/\e<=4)\/E+4=e))
   case first =>
    by_cases h9:e<=4
    ·have bf:1+(e:Int)-4<=1:=by omega
     go_wp2_with fail
     all_goals go_meet
     all_goals first
      | exact⟨0,rfl,rfl,qH (qaw ⟨rfl,h9⟩)⟩
      | exact⟨0,congrArg (Value.int .i64) (by omega),rfl,qH (qaw ⟨rfl,h9⟩)⟩
    ·have bf:¬1+(e:Int)-4<=1:=by omega
     go_wp2_with fail
     all_goals go_meet
     all_goals exact⟨e-4,congrArg (Value.int .i64) (by omega),rfl,qH (qam (by omega))⟩
   case rest =>
    obtain⟨E,rfl,hW,J⟩:=hcut;have ak:=hW.symm;clear hW;subst ak;have aQ:E<=e/\e<=E+4:=by have:=J.o;omega
    go_wp2_with fail
    go_loopw [6,7] (fun x6 x7 W=>∃i v:Nat,E<=i/\i<=e/\x7=.int .i64 ((1+i:Nat):Int)/\x6=.int .i64 v/\W=wr/\Hu (v<10 ^ (i-E)/\dval (Bd.take i)=dval (Bd.take E)*10 ^ (i-E)+v)) (fun _ x7 _=>1+e-(RowKit.intOf x7).toNat)
    case atStart=>exact⟨E,0,qad _,aQ.1,rfl,rfl,rfl,qH ⟨by rw [qaJ];decide,by rw [qaJ];simp⟩⟩
    case round =>
     obtain⟨i,v,bK,bG,rfl,rfl,hW,hv⟩:=hrel;have ak:=hW.symm;clear hW;subst ak
     by_cases aM:i<e
     ·obtain⟨q,hq⟩:=qX (1+i);have aN:(q:Int)<1+(e:Int):=by omega
      have bI:(q:Int)<n:=by omega
      have ah:i<Bd.length:=by rw [HL.o.1];omega
      have aR:q<s.size:=by rw [HL.o.2.1];omega
      have hc:=HL.o.2.2 Bd[i] (qbz ah);have hd:=qfO Bd i ah;have aG:=aX.o i (by rw [hq];exact aR) ah;obtain⟨c,ax⟩:=qX (Bd[i].toNat);have bJ:(s[q]'aR).toNat=c:=by subst hq;rw [aG,ax]
      rw [ax] at hc hd;have bL:v<1000:=qjk hv.o.1 (by omega);obtain⟨d,aJ⟩:=qX (c-48);obtain⟨v1,aS⟩:=qX (v*10+d);have i1:(c:Int)-48=d:=by omega
      have i2:(v:Int)*10+d=v1:=by omega
      have bn:d<=9:=by omega
      have aZ:Hu (v1<10 ^ (i+1-E)/\dval (Bd.take (i+1))=dval (Bd.take E)*10 ^ (i+1-E)+v1):=qH (by
       have h1:=qef hv.o (D:=dval (Bd.take (i+1))) (d:=d) (by rw [hd,aJ]) bn
       rwa [aS,show i-E+1=i+1-E by omega] at h1)
      have Hq:=qH hq;clear ax hd aG aJ aS;rw [hq];clear hq;go_wp2;go_roundw
      case rel=>exact⟨i+1,v1,by omega,aM,by have:=Hq.o;congr 1;omega,rfl,trivial,aZ⟩
      case measure=>have:=Hq.o;simp [RowKit.intOf];omega
     ·obtain rfl:i=e:=by omega
      have bv:v<10000:=qll hv.o.1 (by omega);have aN:¬(((1+i:Nat)):Int)<1+(i:Int):=by omega
      have aB:=qH (hD.o.snoc bv);have aC:Hu (mval (S++[v])+10000 ^ (k+1)*dval (Bd.take E)=dval Bd):=qH (qnP aF.o hI.o hv.o.2 J.o);have aY:Hu ((S++[v]).length=k+1):=qH (by rw [qaf,aF.o];rfl);have Hk:=qH (show k<17592186044416 by have:=Hz.o;omega);clear aM;obtain⟨q,hq⟩:=qX (1+i);rw [hq] at aN ⊢;clear hq
      go_wp2_with (first | (at_builtin;refine qcG (d:=v) rfl _ _ rfl hB.o rfl hO.o rfl rfl Hk.o rfl ?_;intro v' w' bu bg) | fail)
      go_roundw
      case rel=>exact⟨_,E,k+1,S++[v],rfl,by omega,by omega,by have:=J.o;omega,by have:=J.o;omega,by have:=Hz.o;have:=J.o;omega,aB,aY,aC,bu,bg⟩
      case measure=>simp [RowKit.intOf];omega
  ·obtain rfl:e=0:=aU (by omega);have hv:mval S=dval Bd:=by have:=hI.o;simpa [dval] using this
   have HD:=qH (qdj (N:=605) hO.o hD.o (by omega));rw [hv] at HD;have az:=qdW (dval Bd) 605 true _ _ HD.o (by decide);obtain⟨IV,ai⟩:=qX ((if true=true then -(dval Bd:Int) else dval Bd):Int);rw [ai] at az;have HM:=qH az;have aW:=qH ai;clear hv az ai;go_wp2_with fail;refine HM.o.mono ?_;rintro e w2 ⟨u,rfl,aI,aA⟩;have ag:Below W1.heap.size W1 w2:=hB.o.trans (aI.mono hB.o.size);have F:=(ag.block w.heap.size (qG Y.o.2).1).trans Y.o.2;have I:Below w.heap.size w w2:=Y.o.1.trans (ag.mono Y.o.1.size);obtain⟨b9,a9,n9,c9,rfl⟩:=aA.shape;have aT:=qcd (cs':=#[.bool b9,.slice a9 n9 c9]) aA F (nd2 _ _ _ _);have Y:=qH (qA F (qA I (qS I qN #[.bool b9,.slice a9 n9 c9])));have HV:=qH aT;clear F I aT aI aA ag
   go_wp2_with (with_reducible refine sR_ rfl 105 _ _ rfl (w.heap.size) #[.bool b9,.slice a9 n9 c9] Y.o.1 2 ?_)
   exact qR (v:=.agg #[.bool b9,.slice a9 n9 c9]) (rA_ rfl (w.heap.size) (qT _ _ _ _ _ _ Y.o.1) underlying105 2) rfl ⟨_,rfl,Y.o.2.2,by have:=HV.o;rwa [<-aW.o] at this⟩
theorem in_pos (s:ByteArray) (n:Nat) (hn:s.size=n) (h0:0<n) (aC:(s[0]'(by omega)).toNat≠45) (hs:Valid s.data.toList) (w:World) :
  Calls prog 101 #[.string s] w fun e w'=>∃v,e=.returned v/\Below w.heap.size w w'/\qca w' v (ival s.data.toList):=by
 obtain⟨L,hL⟩:=qX s.data.toList;have ai:L.length=n:=by rw [<-hL,<-hn,qa9];rfl
 have ak:∀k (h:k<s.size) (h':k<L.length),s[k]=L[k]:=fun k h h'=>by subst hL;rfl
 have ae:0<s.size:=by omega
 have V:=qlL (L:=L) (by omega) (by rw [<-ak 0 ae (by omega)];exact aC);rw [hL] at hs ⊢;have H:=hs.nums;have aL:=hs.le;have aa:=hs.pos;have ax:ival L=if false=true then -(dval (L.drop 0):Int) else dval (L.drop 0):=by unfold ival;rw [V.2,V.1]
 rw [V.1] at H aL aa;rw [qaY,ai] at aL aa;obtain⟨Bd,O⟩:=qX (L.drop 0);have aD:Bd.length=n-0:=by rw [<-O,qaY,ai]
 have Z:∀k (h:k<s.size) (h':k<Bd.length),s[k]=Bd[k]:=fun k h h'=>by subst O;rw [ak _ h (by omega)];simp
 rw [O] at ax H;rw [ax];obtain⟨c0,au⟩:=qX ((s[0]'ae).toNat);have aO:=au;rw [au] at aC;have bg:((c0:Int) == 45)=false:=by rw [beq_eq_false_iff_ne];omega
 have aW:=qH Z;have HL:=qH (qA aD (qA hn H));have bC:(0:Int)<n:=by omega
 obtain⟨W1,U⟩:=qY (w.alloc (.cells #[.bool false,.slice none 0 0] 105));have aH:Below w.heap.size w W1:=U▸qb4 qB qN;have aN:W1.heap[w.heap.size]? = some (.cells #[.bool false,.slice none 0 0] 105 (0,0)):=by rw [U];exact qM _ _ _ rfl
 have Y:=qH (qA aH aN);clear aH aN hs V hL ai ak au aD Z H ax O;have bH:n<=601:=by omega
 go_enter func101,ntmps101;go_wp2_with fail;rw [<-U];clear U aO bg
 go_loopw [4,5,6,7] (fun x4 x5 x6 x7 W=>∃(z:Int) (e k:Nat) (S:List Nat),x5=.int .i64 z/\-4<=z/\z<=n/\(0<z->z=e)/\(z<=0->e=0)/\k+e<=n+4/\Hu (Dig S)/\Hu (S.length=k)/\Hu (mval S+10000 ^ k*dval (Bd.take e)=dval Bd)/\Hu (W.ownsRow W1.heap.size 3 1 x4 k (row64 S))/\Hu (Below W1.heap.size W1 W)) (fun _ x5 _ _ _=>(RowKit.intOf x5+4).toNat)
 case atStart=>exact⟨n,n-0,0,[],rfl,by omega,Int.le_refl _,by omega,by omega,by omega,qH Dig.nil,qH rfl,qH (by rw [qah (by rw [HL.o.1];exact qad _)];simp [mval]),qH (World.ownsRow_nil _ _ _ _),qH qB⟩
 case round =>
  obtain⟨z,e,k,S,rfl,bz,bA,aU,aT,bn,hD,aF,hI,hO,hB⟩:=hrel;have bB:=hB.o.size
  by_cases aK:0<z
  ·obtain rfl:z=e:=aU aK;have bD:0<e:=by omega
   have bF:(0:Int)<(e:Int):=by omega
   have Hz:=qH (qA bA bn);have bE:e<=n:=by omega
   clear aU aT bz aK;go_upto_region 9 with fail
   go_cut [7] (fun x7 W=>∃E:Nat,x7=.int .i64 ((E:Nat):Int)/\W=wr/\Hu ((E=0/\e<=4)\/E+4=e))
   case first =>
    by_cases h9:e<=4
    ·have aZ:(e:Int)-4<=0:=by omega
     go_wp2_with fail
     all_goals go_meet
     all_goals first
      | exact⟨0,rfl,rfl,qH (qaw ⟨rfl,h9⟩)⟩
      | exact⟨0,congrArg (Value.int .i64) (by omega),rfl,qH (qaw ⟨rfl,h9⟩)⟩
    ·have aZ:¬(e:Int)-4<=0:=by omega
     go_wp2_with fail
     all_goals go_meet
     all_goals exact⟨e-4,congrArg (Value.int .i64) (by omega),rfl,qH (qam (by omega))⟩
   case rest =>
    obtain⟨E,rfl,hW,J⟩:=hcut;have aj:=hW.symm;clear hW;subst aj;have aP:E<=e/\e<=E+4:=by have:=J.o;omega
    go_wp2_with fail
    go_loopw [6,7] (fun x6 x7 W=>∃i v:Nat,E<=i/\i<=e/\x7=.int .i64 ((i:Nat):Int)/\x6=.int .i64 v/\W=wr/\Hu (v<10 ^ (i-E)/\dval (Bd.take i)=dval (Bd.take E)*10 ^ (i-E)+v)) (fun _ x7 _=>e-(RowKit.intOf x7).toNat)
    case atStart=>exact⟨E,0,qad _,aP.1,rfl,rfl,rfl,qH ⟨by rw [qaJ];decide,by rw [qaJ];simp⟩⟩
    case round =>
     obtain⟨i,v,bK,bG,rfl,rfl,hW,hv⟩:=hrel;have aj:=hW.symm;clear hW;subst aj
     by_cases aM:i<e
     ·obtain⟨q,hq⟩:=qX i;have bu:(q:Int)<(e:Int):=by omega
      have bI:(q:Int)<n:=by omega
      have ag:i<Bd.length:=by rw [HL.o.1];omega
      have aQ:q<s.size:=by rw [HL.o.2.1];omega
      have hc:=HL.o.2.2 Bd[i] (qbz ag);have hd:=qfO Bd i ag;have aG:=aW.o i (by rw [hq];exact aQ) ag;obtain⟨c,av⟩:=qX (Bd[i].toNat);have bJ:(s[q]'aQ).toNat=c:=by subst hq;rw [aG,av]
      rw [av] at hc hd;have bL:v<1000:=qjk hv.o.1 (by omega);obtain⟨d,aJ⟩:=qX (c-48);obtain⟨v1,aR⟩:=qX (v*10+d);have i1:(c:Int)-48=d:=by omega
      have i2:(v:Int)*10+d=v1:=by omega
      have bi:d<=9:=by omega
      have aY:Hu (v1<10 ^ (i+1-E)/\dval (Bd.take (i+1))=dval (Bd.take E)*10 ^ (i+1-E)+v1):=qH (by
       have h1:=qef hv.o (D:=dval (Bd.take (i+1))) (d:=d) (by rw [hd,aJ]) bi
       rwa [aR,show i-E+1=i+1-E by omega] at h1)
      have Hq:=qH hq;clear av hd aG aJ aR;rw [hq];clear hq;go_wp2;go_roundw
      case rel=>exact⟨i+1,v1,by omega,aM,by have:=Hq.o;congr 1;omega,rfl,trivial,aY⟩
      case measure=>have:=Hq.o;simp [RowKit.intOf];omega
     ·obtain rfl:i=e:=by omega
      have bv:v<10000:=qll hv.o.1 (by omega);have bu:¬(((i:Nat)):Int)<(i:Int):=by omega
      have aA:=qH (hD.o.snoc bv);have aB:Hu (mval (S++[v])+10000 ^ (k+1)*dval (Bd.take E)=dval Bd):=qH (qnP aF.o hI.o hv.o.2 J.o);have aX:Hu ((S++[v]).length=k+1):=qH (by rw [qaf,aF.o];rfl);have Hk:=qH (show k<17592186044416 by have:=Hz.o;omega);clear aM
      go_wp2_with (first | (at_builtin;refine qcG (d:=v) rfl _ _ rfl hB.o rfl hO.o rfl rfl Hk.o rfl ?_;intro v' w' bq bf) | fail)
      go_roundw
      case rel=>exact⟨_,E,k+1,S++[v],rfl,by omega,by omega,by have:=J.o;omega,by have:=J.o;omega,by have:=Hz.o;have:=J.o;omega,aA,aX,aB,bq,bf⟩
      case measure=>simp [RowKit.intOf];omega
  ·obtain rfl:e=0:=aT (by omega);have hv:mval S=dval Bd:=by have:=hI.o;simpa [dval] using this
   have HD:=qH (qdj (N:=605) hO.o hD.o (by omega));rw [hv] at HD;have ay:=qdW (dval Bd) 605 false _ _ HD.o (by decide);obtain⟨IV,ah⟩:=qX ((if false=true then -(dval Bd:Int) else dval Bd):Int);rw [ah] at ay;have HM:=qH ay;have aV:=qH ah;clear hv ay ah;go_wp2_with fail;refine HM.o.mono ?_;rintro e w2 ⟨u,rfl,aI,az⟩;have af:Below W1.heap.size W1 w2:=hB.o.trans (aI.mono hB.o.size);have F:=(af.block w.heap.size (qG Y.o.2).1).trans Y.o.2;have I:Below w.heap.size w w2:=Y.o.1.trans (af.mono Y.o.1.size);obtain⟨b9,a9,n9,c9,rfl⟩:=az.shape;have aS:=qcd (cs':=#[.bool b9,.slice a9 n9 c9]) az F (nd2 _ _ _ _);have Y:=qH (qA F (qA I (qS I qN #[.bool b9,.slice a9 n9 c9])));have HV:=qH aS;clear F I aS aI az af
   go_wp2_with (with_reducible refine sR_ rfl 105 _ _ rfl (w.heap.size) #[.bool b9,.slice a9 n9 c9] Y.o.1 2 ?_)
   exact qR (v:=.agg #[.bool b9,.slice a9 n9 c9]) (rA_ rfl (w.heap.size) (qT _ _ _ _ _ _ Y.o.1) underlying105 2) rfl ⟨_,rfl,Y.o.2.2,by have:=HV.o;rwa [<-aV.o] at this⟩
theorem qlj (s:ByteArray) (H:Valid s.data.toList) (w:World) :
  Calls prog 101 #[.string s] w fun e w'=>∃v,e=.returned v/\Below w.heap.size w w'/\qca w' v (ival s.data.toList):=by
 have F:0<s.size:=by
  rcases qaN s.size with h | h
  ·exfalso;have I:=H.pos;have J:s.data.toList=[]:=qbk.1 (by rw [qa9];exact h);rw [J] at I;exact absurd I (by decide)
  ·exact h
 by_cases E:(s[0]'F).toNat=45
 ·exact in_neg s _ rfl F E H w
 ·exact in_pos s _ rfl F E H w
theorem qgk {z:Int} (h:z<0):(qcj z).size=(num z.natAbs).size+1:=by
 rw [qfz h,ByteArray.size_append];have:(⟨#[45]⟩:ByteArray).size=1:=rfl;omega
theorem qgl {z:Int} (h:¬z<0):(qcj z).size=(num z.natAbs).size:=by rw [qeb h]
theorem num_fit {x K:Nat} (h:Fit x K) (E:0<K):(num x).size<=4*K:=by
 rw [qdZ];refine qcL _ _ (by omega) ?_;rw [<-pow4];exact h
def qm6 (w:World) (z:Int) (e:Ending) (w':World):Prop:=((num z.natAbs).size<=600/\e=.returned (.tuple #[.string (qcj z),.int .i64 0])\/¬(num z.natAbs).size<=600/\e=.returned (.tuple #[.string ⟨#[]⟩,.int .i64 6]))/\Below w.heap.size w w'
theorem qot (z:Int) (K:Nat) (ag:0<K) (hK:K<=17592186000000) (v:Value) (w:World) (hv:qca w v z) (hz:Fit z.natAbs K) :
  Calls prog 102 #[v] w fun e w'=>qm6 w z e w':=by
 have HT:=qH (fun (W:World) (h:Below w.heap.size w W)=>qlR z K hK v W (hv.below h) hz);have hn:=num_fit hz ag;have E:=qgk (z:=z);have F:=qgl (z:=z);obtain⟨m,rfl,am,bm,om,cm,nm,M,rfl,_,_⟩:=hv;obtain⟨N,hN⟩:=qX ((num z.natAbs).size);obtain⟨S,hS⟩:=qX (qcj z);rw [hS] at HT E F;rw [hN] at hn E F;unfold qm6;rw [hN,hS];obtain⟨L,hL⟩:=qX S.size;rw [hL] at E F;obtain⟨b,hb⟩:=qX (decide (z<0));rw [hb] at HT ⊢;obtain⟨W1,J⟩:=qY (w.alloc (.cells #[.bool b,.slice am nm cm] 105));have Y:Below w.heap.size w W1:=J▸qb4 qB qN;have Z:W1.heap[w.heap.size]? = some (.cells #[.bool b,.slice am nm cm] 105 (0,0)):=by rw [J];exact qM _ _ _ rfl
 have H1:=qH (qA Y Z);have I:L=if b=true then N+1 else N:=by
  subst hb
  by_cases h:z<0
  ·rw [qV h,if_pos rfl];exact E h
  ·rw [qU h,if_neg (by decide)];exact F h
 clear Y Z E F hS hN hb hz;go_enter func102,ntmps102;go_wp2_with fail;rw [<-J];clear J;refine (HT.o _ H1.o.1).mono ?_;rintro e w2 ⟨rfl,V⟩;have aa:=zkeep V _ _ H1.o.2;have k0:=qC w2 _ 0 _ _ _ aa;have HB:=qH (H1.o.1.trans (V.mono H1.o.1.size));clear V aa;cases b with
 | true =>
  rw [if_pos rfl] at I;subst I
  by_cases H:N<=600
  ·have U:¬(600:Int)<((N+1:Nat):Int)-1:=by omega
   have ae:¬(600:Int)<(N:Int)+1-1:=by omega
   have af:¬600<N:=by omega
   have O:=qH H;clear H;go_wp2_with fail
   go_ret2
   exact⟨qaw ⟨O.o,rfl⟩,HB.o⟩
  ·have U:(600:Int)<((N+1:Nat):Int)-1:=by omega
   have ae:(600:Int)<(N:Int)+1-1:=by omega
   have af:600<N:=by omega
   have O:=qH H;clear H;go_wp2_with fail
   go_ret2
   exact⟨qam ⟨O.o,rfl⟩,HB.o⟩
 | false =>
  rw [if_neg (by decide)] at I;subst I
  by_cases H:L<=600
  ·have U:¬(600:Int)<(L:Int):=by omega
   have O:=qH H;clear H;go_wp2_with fail
   go_ret2
   exact⟨qaw ⟨O.o,rfl⟩,HB.o⟩
  ·have U:(600:Int)<(L:Int):=by omega
   have O:=qH H;clear H;go_wp2_with fail
   go_ret2
   exact⟨qam ⟨O.o,rfl⟩,HB.o⟩
theorem qjK {w w':World} {z:Int} {e:Ending} (h:qm6 w z e w'):∃(T:ByteArray) (c:Int),e=.returned (.tuple #[.string T,.int .i64 c])/\((num z.natAbs).size<=600/\T=qcj z/\c=0\/¬(num z.natAbs).size<=600/\T=⟨#[]⟩/\c=6)/\Below w.heap.size w w':=by
 obtain⟨h | h,E⟩:=h
 ·exact⟨_,_,h.2,qaw ⟨h.1,rfl,rfl⟩,E⟩
 ·exact⟨_,_,h.2,qam ⟨h.1,rfl,rfl⟩,E⟩
theorem rout_any (q:Rat) (K:Nat) (af:0<K) (hK:K<=17592186000000) (v:Value) (w:World) (hv:qcv w v q) (fn:Fit q.num.natAbs K) (fd:Fit q.den K) :
  Calls prog 54 #[v] w fun e w'=>qg4 w q e w':=by
 obtain⟨m,o,rfl,hm,ho⟩:=hv;have ai:∀W,Below w.heap.size w W->qca W (.agg #[.bool (decide (q.num<0)),m]) q.num:=fun W h=>⟨m,rfl,hm.below h⟩
 have ah:∀W,Below w.heap.size w W->qca W (.agg #[.bool false,o]) (q.den:Int):=fun W h=>⟨o,by rw [qU (by omega)],by simpa using ho.below h⟩
 have HN:=qH (fun (W:World) (h:Below w.heap.size w W)=>qot q.num K af hK _ W (ai W h) fn);have HD:=qH (fun (W:World) (h:Below w.heap.size w W)=>qot (q.den:Int) K af hK _ W (ah W h) (by simpa using fd));have Y:qcj (q.den:Int)=num q.den:=by
  rw [qeb (show ¬(q.den:Int)<0 by omega),qas]
 have ae:=qH Y;generalize decide (q.num<0)=b at *;obtain⟨am,bm,om,cm,nm,M,rfl,_,_⟩:=hm;obtain⟨ao,bo,oo,co,no,O,rfl,_,_⟩:=ho;clear ai ah fn fd Y;obtain⟨W1,H⟩:=qY ((w.alloc (.cells #[.bool b,.slice am nm cm,.bool false,.slice ao no co] 107)).alloc (.cells #[.string ⟨#[]⟩,.string ⟨#[]⟩] 27));have ag:Below w.heap.size w W1:=H▸qb4 (qb4 qB qN) qN;have E:W1.heap[w.heap.size]? = some (.cells #[.bool b,.slice am nm cm,.bool false,.slice ao no co] 107 (0,0)):=by rw [H,qL _ _ _ (by simp only [qab];omega)];exact qM _ _ _ rfl
 have aj:W1.heap[w.heap.size+1]? = some (.cells #[.string ⟨#[]⟩,.string ⟨#[]⟩] 27 (0,0)):=by rw [H];exact qM _ _ _ (by simp)
 have k0:=qC W1 _ 0 _ _ _ E;have k1:=qC W1 _ 1 _ _ _ E;have H1:=qH (qA ag (qA E aj));clear ag E aj;go_enter func54,ntmps54;go_wp2_with fail;rw [<-H];clear H;go_wp2_with fail;refine (HN.o _ H1.o.1).mono ?_;intro e w2 V;obtain⟨T,c,rfl,hT,U⟩:=qjK V;have E:=zkeep U _ _ H1.o.2.1;have k2:=qC w2 _ 2 _ _ _ E;have k3:=qC w2 _ 3 _ _ _ E;have H2:=qH (qA (H1.o.1.trans (U.mono H1.o.1.size)) (zkeep U _ _ H1.o.2.2));clear U E V k0 k1;go_wp2_with fail;refine (HD.o _ H2.o.1).mono ?_;intro e w3 h3;obtain⟨T2,c2,rfl,Z,aa⟩:=qjK h3;rw [ae.o,qas] at Z;have I:=qH (qA (H2.o.1.trans (aa.mono H2.o.1.size)) (zkeep aa _ _ H2.o.2));clear aa h3 k2 k3;rcases hT with ⟨h1,F,rfl⟩ | ⟨h1,F,rfl⟩
 ·rcases Z with ⟨V,J,rfl⟩ | ⟨V,J,rfl⟩
  ·have HS:Hu (Short q):=qH ⟨h1,V⟩;have HE:Hu (Value.agg #[.string T,.string T2]=fstr q):=qH (by rw [F,J];rfl);clear h1 V F J
   go_wp2_with (with_reducible refine sR_ rfl 27 _ _ rfl (w.heap.size+1) #[.string T,.string T2] I.o.2 2 ?_)
   exact qR (v:=.tuple #[.agg #[.string T,.string T2],.int .i64 0]) (rB_ rfl (w.heap.size+1) (qT _ _ _ _ _ _ I.o.2) underlying27 2) rfl ⟨qaw ⟨HS.o,by rw [HE.o]⟩,qS I.o.1 (by omega) _⟩
  ·have HS:Hu (¬Short q):=qH (fun h=>V h.2);clear h1 V F J
   go_wp2_with (with_reducible refine sR_ rfl 27 _ _ rfl (w.heap.size+1) #[.string ⟨#[]⟩,.string ⟨#[]⟩] I.o.2 2 ?_)
   exact qR (v:=.tuple #[.agg #[.string ⟨#[]⟩,.string ⟨#[]⟩],.int .i64 6]) (rB_ rfl (w.heap.size+1) (qT _ _ _ _ _ _ I.o.2) underlying27 2) rfl ⟨qam ⟨HS.o,rfl⟩,qS I.o.1 (by omega) _⟩
 ·have HS:Hu (¬Short q):=qH (fun h=>h1 h.1);clear h1 F Z
  go_wp2_with (with_reducible refine sR_ rfl 27 _ _ rfl (w.heap.size+1) #[.string ⟨#[]⟩,.string ⟨#[]⟩] I.o.2 2 ?_)
  exact qR (v:=.tuple #[.agg #[.string ⟨#[]⟩,.string ⟨#[]⟩],.int .i64 6]) (rB_ rfl (w.heap.size+1) (qT _ _ _ _ _ _ I.o.2) underlying27 2) rfl ⟨qam ⟨HS.o,rfl⟩,qS I.o.1 (by omega) _⟩
theorem qjO (x y K:Nat) (hK:K<=1) (vm vo:Value) (w:World) (hm:MagAt w vm x) (ho:MagAt w vo y) (hx:Fit x K) (hy:Fit y K) (U:0<y) :
  Calls prog 206 #[vm,vo] w fun e w'=>∃q r,e=.returned (.tuple #[q,r])/\Below w.heap.size w w'/\MagAt w' q (x / y)/\MagAt w' r (x % y)/\HiS w.heap.size q:=by
 obtain⟨am,bm,om,cm,n,M,rfl,Im,rfl⟩:=hm;obtain⟨ao,bo,oo,co,no,O,rfl,F,rfl⟩:=ho;have hn:n<=K:=hx.len Im;have aj:no<=K:=hy.len F;have J:0<no:=by
  rcases qaN no with h | h
  ·have:=(F.nrm.zero).2 (by rw [F.len,h]);omega
  ·exact h
 have ae:=F.addr J;subst ae;have V:=qH Im;have Z:=qH F;have aa:=qH U;clear Im F hx hy U;have h1:no=1:=by omega
 subst h1;have af:=Z.o.cell 0 (by omega);obtain⟨d,Y⟩:=qX (dg O 0);rw [Y,qbt] at af;have H:O=[d]:=by
  obtain⟨a,ha⟩:=List.length_eq_one_iff.1 Z.o.len;subst ha;rw [<-Y];rfl
 have E:mval O=d:=by rw [H];simp [mval]
 have ai:d<10000:=by rw [<-Y];exact Z.o.dig 0
 have ah:=qH E;have I:0<d:=by have:=aa.o;omega
 rw [E];have HC:=qH (qlB (mval M) K d (by omega) I (by omega) (.slice am n cm) w ⟨am,bm,om,cm,n,M,rfl,V.o.len,V.o.cap,hn,V.o.cells,V.o.dig,rfl⟩);obtain⟨r,hr⟩:=qX (mval M % d);have ak:r<d:=by rw [<-hr];exact qbS _ I
 rw [hr] at HC ⊢;clear Y H E hr;go_enter func206,ntmps206
 go_wp2_with (go_at_call 248;refine HC.o.mono ?_)
 rintro e w1 ⟨q,rfl,hb,hq,ag⟩;have HD:=qH (qdj (N:=1) (qkP w1 r 3 rfl qN) (Dig.nil.snoc (d:=r) (by omega)) qN);have Hb:=qH hb;have Hq:=qH hq;clear hb hq
 go_wp2_with (go_at_call 235;refine (qfN _ 1 _ _ HD.o (by decide)).mono ?_)
 rintro e w2 ⟨u,rfl,rfl,hu⟩;go_wp2
 go_ret2
 exact⟨_,_,rfl,Hb.o.alloc Hb.o.size _,Hq.o.below (qB.alloc qN _),by simpa [mval] using hu,ag⟩
theorem qku (x y:Int) (K:Nat) (hK:K<=1) (v u:Value) (w:World) (hv:qca w v x) (hu:qca w u y) (hx:Fit x.natAbs K) (hy:Fit y.natAbs K) :
  Calls prog 139 #[v,u] w fun e w'=>∃u,e=.returned u/\Below w.heap.size w w'/\qca w' u ((x.natAbs.gcd y.natAbs:Nat):Int):=by
 obtain⟨m,rfl,hm⟩:=hv;obtain⟨o,rfl,ho⟩:=hu;generalize decide (x<0)=b0 at *;generalize decide (y<0)=b1 at *;have HM:=qH hm;have HO:=qH ho;obtain⟨a0,bm,om,c0,n0,M,rfl,Im,ax⟩:=hm;obtain⟨a1,bo,oo,c1,n1,O,rfl,Io,ay⟩:=ho;obtain⟨G,hG⟩:=qX (x.natAbs.gcd y.natAbs);rw [hG];have HF:=qH (qA hx (qA hy (qA hG hK)));clear Im ax Io ay hx hy hG hK;obtain⟨U,H⟩:=qY (((w.alloc (.cells #[.bool b0,.slice a0 n0 c0] 105)).alloc (.cells #[.bool b1,.slice a1 n1 c1] 105)).alloc (.cells #[.bool false,.slice none 0 0] 105));have af:Below w.heap.size w U:=H▸qb4 (qb4 (qb4 qB qN) qN) qN;have ah:U.heap[w.heap.size]? = some (.cells #[.bool b0,.slice a0 n0 c0] 105 (0,0)):=by rw [H,qL _ _ _ (by simp only [qab];omega),qL _ _ _ (by simp only [qab];omega)];exact qM _ _ _ rfl
 have ai:U.heap[w.heap.size+1]? = some (.cells #[.bool b1,.slice a1 n1 c1] 105 (0,0)):=by rw [H,qL _ _ _ (by simp only [qab];omega)];exact qM _ _ _ (by simp)
 have aj:U.heap[w.heap.size+1+1]? = some (.cells #[.bool false,.slice none 0 0] 105 (0,0)):=by rw [H];exact qM _ _ _ (by simp)
 have az:=qC U _ 1 _ _ _ ah;have aA:=qC U _ 1 _ _ _ ai;have HR:=qH (qA af aj);clear ah ai aj af;go_enter func139,ntmps139;go_wp2_with fail;rw [<-H];clear H
 go_quiet (fail)
 go_wp2_with fail;have E:Hu (Below w.heap.size w (U.drewN nq)/\(U.drewN nq).heap[w.heap.size+1+1]? = some (.cells #[.bool false,.slice none 0 0] 105 (0,0))):=qH ⟨below_drewN HR.o.1 nq,HR.o.2⟩;obtain⟨W2,Z⟩:=qY (U.drewN nq);rw [<-Z] at E;rw [<-Z];clear Z az aA
 go_loopg [5,6,7,8] y.natAbs (fun b x5 x6 x7 x8 W=>∃a:Nat,Hu (MagAt W x5 a)/\Hu (MagAt W x6 b)/\Hu (Fit a K/\Fit b K/\a.gcd b=G)/\Hu (Below W2.heap.size W2 W))
 case atStart=>exact⟨x.natAbs,qH (HM.o.below E.o.1),qH (HO.o.below E.o.1),qH ⟨HF.o.1,HF.o.2.1,HF.o.2.2.1⟩,qH qB⟩
 case round =>
  obtain⟨a,ha,hb,hF,hB⟩:=hrel;have au:=hb.o;obtain⟨a6,b6,o6,c6,n6,B6,rfl,I6,aa⟩:=au;have J:=qgT I6;rw [aa] at J;clear I6 aa
  by_cases V:n6=0
  ·have Y:=J.1 V;subst V;obtain rfl:gk=0:=Y;have ae:MagAt wr u5 G:=by have h:=hF.o.2.2;rw [Nat.gcd_zero_right] at h;rw [<-h];exact ha.o
   have HG:qca wr (.agg #[.bool false,u5]) (G:Int):=⟨u5,by rw [qU (by omega)],by simpa using ae⟩;obtain⟨a5,b5,o5,c5,n5,B5,rfl,_,_⟩:=ae;have F:=(hB.o.block (w.heap.size+1+1) (qG E.o.2).1).trans E.o.2;have I:Below w.heap.size w wr:=E.o.1.trans (hB.o.mono E.o.1.size);have ak:=qcd (cs':=#[.bool false,.slice a5 n5 c5]) HG F (nd2 _ _ _ _);have HR:=qH (qA F (qA I (qS I (show w.heap.size<=w.heap.size+1+1 by omega) #[.bool false,.slice a5 n5 c5])));have HV:=qH ak;clear F I ak HG J
   go_wp2_with (with_reducible refine sR_ rfl 105 _ _ rfl (w.heap.size+1+1) #[.bool false,.slice a5 n5 c5] HR.o.1 2 ?_)
   exact qR (v:=.agg #[.bool false,.slice a5 n5 c5]) (rA_ rfl (w.heap.size+1+1) (qT _ _ _ _ _ _ HR.o.1) underlying105 2) rfl ⟨_,rfl,HR.o.2.2,HV.o⟩
  ·have Y:gk≠0:=fun h=>V (J.2 h)
   have aB:(0:Int)<n6:=by omega
   have HD:=qH (qjO a gk K (by have:=HF.o.2.2.2;omega) u5 _ wr ha.o hb.o hF.o.1 hF.o.2.1 (by omega));have av:=qH Y;clear J V Y;go_wp2_with fail;refine HD.o.mono ?_;rintro e w2 ⟨q,r,rfl,ag,hq,hr,_⟩;have HV:=qH (qA ag hr);clear ag hr hq;go_wp2_with fail
   go_roundg (a % gk)
   case measure=>exact qbS _ (by have:=av.o;omega)
   case rel=>exact⟨gk,qH (hb.o.below HV.o.1),qH HV.o.2,qH ⟨hF.o.2.1,hF.o.1.le (Nat.mod_le _ _),by rw [<-hF.o.2.2,Nat.gcd_comm gk,<-Nat.gcd_rec,Nat.gcd_comm]⟩,qH (hB.o.trans (HV.o.1.mono hB.o.size))⟩
theorem qgI (x y:Int) (K:Nat) (V:K<=1) (v u:Value) (w:World) (hv:qca w v x) (hu:qca w u y) (hx:Fit x.natAbs K) (hy:Fit y.natAbs K) (aX:0<y) (af:x.natAbs % y.natAbs=0) :
  Calls prog 173 #[v,u] w fun e w'=>∃p q,e=.returned (.tuple #[p,q])/\Below w.heap.size w w'/\qca w' p (if x<0 then -((x.natAbs / y.natAbs:Nat):Int) else ((x.natAbs / y.natAbs:Nat):Int))/\qca w' q 0/\HiP w.heap.size p:=by
 obtain⟨m,rfl,hm⟩:=hv;obtain⟨o,rfl,ho⟩:=hu;rw [qU (show ¬y<0 by omega)];have hp:=fun (W:World) (h:Below w.heap.size w W)=>qjO x.natAbs y.natAbs K V m o W (hm.below h) (ho.below h) hx hy (by omega)
 rw [af] at hp;have hq:Fit (x.natAbs / y.natAbs) K:=hx.le (qa2 _ _);have ag:(if (decide (x<0) != false)=true then -((x.natAbs / y.natAbs:Nat):Int) else ((x.natAbs / y.natAbs:Nat):Int))=(if x<0 then -((x.natAbs / y.natAbs:Nat):Int) else ((x.natAbs / y.natAbs:Nat):Int)):=by
  by_cases h:x<0
  ·rw [qV h,if_pos h];rfl
  ·rw [qU h,if_neg h];rfl
 rw [<-ag];obtain⟨b0,az⟩:=qX (decide (x<0));rw [az];rw [show (b0 != false)=b0 by cases b0 <;> rfl];obtain⟨X,hX⟩:=qX ((if b0=true then -((x.natAbs / y.natAbs:Nat):Int) else ((x.natAbs / y.natAbs:Nat):Int)):Int);rw [hX];generalize x.natAbs / y.natAbs=Q at *;have HP:=qH hp;have aN:=qH hX;have HQ:=qH hq;have aW:=V;obtain⟨ax,bm,om,cx,nx,M,rfl,Im,aO⟩:=hm;obtain⟨ay,bo,oo,cy,ny,O,rfl,Io,aP⟩:=ho;clear hX hp hq ag az Im aO Io aP hx hy V af;obtain⟨W1,F⟩:=qY ((((w.alloc (.cells #[.bool b0,.slice ax nx cx] 105)).alloc (.cells #[.bool false,.slice ay ny cy] 105)).alloc (.cells #[.bool false,.slice none 0 0] 105)).alloc (.cells #[.bool false,.slice none 0 0] 105));have aA:Below w.heap.size w W1:=F▸qb4 (qb4 (qb4 (qb4 qB qN) qN) qN) qN;have au:W1.heap[w.heap.size]? = some (.cells #[.bool b0,.slice ax nx cx] 105 (0,0)):=by rw [F,qL _ _ _ (by simp only [qab];omega),qL _ _ _ (by simp only [qab];omega),qL _ _ _ (by simp only [qab];omega)];exact qM _ _ _ rfl
 have av:W1.heap[w.heap.size+1]? = some (.cells #[.bool false,.slice ay ny cy] 105 (0,0)):=by rw [F,qL _ _ _ (by simp only [qab];omega),qL _ _ _ (by simp only [qab];omega)];exact qM _ _ _ (by simp)
 have aF:W1.heap[w.heap.size+1+1]? = some (.cells #[.bool false,.slice none 0 0] 105 (0,0)):=by rw [F,qL _ _ _ (by simp only [qab];omega)];exact qM _ _ _ (by simp)
 have aG:W1.heap[w.heap.size+1+1+1]? = some (.cells #[.bool false,.slice none 0 0] 105 (0,0)):=by rw [F];exact qM _ _ _ (by simp)
 have aT:=qC W1 _ 1 _ _ _ au;have aU:=qC W1 _ 1 _ _ _ av;have HR:=qH (qA aA (qA au (qA av (qA aF aG))));clear au av aF aG aA;go_enter func173,ntmps173;go_wp2_with fail;rw [<-F];clear F;go_wp2_with fail;refine (HP.o _ HR.o.1).mono ?_;rintro e E ⟨q,r,rfl,ah,aI,aJ,aD⟩;clear aT aU;have aS:Below E.heap.size E E:=Below.refl _ _;have aH:Below E.heap.size E E.drew:=aS.drew;have aV:E.drew.heap.size=E.heap.size:=rfl;have row:∀(g:Nat) (o:Obj),W1.heap[g]? = some o->E.heap[g]? = some o:=zkeep ah;have R0:=row _ _ HR.o.2.1;have R1:=row _ _ HR.o.2.2.1;have l0:w.heap.size<E.heap.size:=(qG R0).1;have l1:w.heap.size+1<E.heap.size:=(qG R1).1;have C0:∀W,Below E.heap.size E W->W.cell? ⟨w.heap.size,0,none⟩=some (.bool b0):=fun W h=>(h.cell (p:=⟨w.heap.size,0,none⟩) l0).trans (qC _ _ 0 _ _ _ R0)
 have C1:∀W,Below E.heap.size E W->W.cell? ⟨w.heap.size+1,0,none⟩=some (.bool false):=fun W h=>(h.cell (p:=⟨w.heap.size+1,0,none⟩) l1).trans (qC _ _ 0 _ _ _ R1)
 have aj:=fun (W:World) (h:Below E.heap.size E W)=>qlx Q K b0 q W ((aI.below h).digs HQ.o) (by omega)
 have ak:=fun (W:World) (h:Below E.heap.size E W)=>qdW 0 1 b0 r W ((aJ.below h).digs (by unfold Fit;decide)) (by decide)
 rw [aN.o] at aj;rw [show (if b0=true then -((0:Nat):Int) else ((0:Nat):Int))=0 by split <;> rfl] at ak;have aK:=qH aj;have aL:=qH ak;have ae:=HR.o.1.trans (ah.mono HR.o.1.size);have aM:=qH (aD.mono HR.o.1.size);have H2:=qH (qA ae (qA (row _ _ HR.o.2.2.2.1) (row _ _ HR.o.2.2.2.2)));obtain⟨aq,_,_,cq,aY,_,rfl,_,_⟩:=aI;obtain⟨ar,_,_,cr,aZ,_,rfl,_,_⟩:=aJ;clear aj ak R0 R1 ah ae row aD;go_wp2_with fail;refine wp_region_held_drew (S:=fun W=>Below E.heap.size E W) (by kernel_rfl) aH (fun hS0=>?_);refine hT 0 (h:=hT 1 (h:=hT 2 (h:=hT 3 (h:=hT 4 (h:=hT 5 (h:=hT 7 (h:=hT 8 (h:=hT 9 (h:=?_)))))))));refine gr [(6,24),(10,28),(11,8),(12,9)] [] [0,1,2,3,4,5,7,8,9] [6,10,11,12] [11,12] 13 15 (fl2 [(6,fun x W=>qca W x X/\HiP w.heap.size x),(10,fun x W=>qca W x 0),(11,ZC E.heap.size #[.bool false,.slice none 0 0] 105),(12,ZC E.heap.size #[.bool false,.slice none 0 0] 105)]) _ 2
  (hS:=fun w' h=>qcm h) (hstep:=⟨⟨_,rfl,fun v J I Z K V=>?_⟩,⟨_,rfl,fun v J I Z K V=>?_⟩,⟨_,rfl,fun v J I Z K V=>?_⟩,⟨_,rfl,fun v J I Z K V=>?_⟩,trivial⟩) (hend:=fun v J I Z hE f=>?_)
 ·exact gC V (aK.o _ (qcm I)) (h:=fun e J ⟨u,e1,h1,h2,h3⟩=>⟨u,e1,⟨h2,h3 _ aM.o⟩,h1⟩)
 ·exact gC V (aL.o _ (qcm I)) (h:=fun e J ⟨u,e1,h1,h2⟩=>⟨u,e1,h2,h1⟩)
 ·exact gW V (h:=ZC.new I.size)
 ·exact gW V (h:=ZC.new I.size)
 have i3:qca J (v 6) X/\HiP w.heap.size (v 6):=Z 6 (by decide) (by decide);have i4:qca J (v 10) 0:=Z 10 (by decide) (by decide);obtain⟨g3,h3,e11,ai⟩:ZC _ _ _ (v 11) J:=Z 11 (by decide) (by decide);obtain⟨g4,h4,e12,aB⟩:ZC _ _ _ (v 12) J:=Z 12 (by decide) (by decide);have hne:g3≠g4:=by have:=hE 11 (by decide) 12 (by decide) (by decide);rwa [e11,e12] at this
 obtain⟨b3,a3,n3,c3,e6⟩:=i3.1.shape;obtain⟨b4,a4,n4,c4,e10⟩:=i4.shape;rw [e6] at i3;rw [e10] at i4;have aR:b4=false:=by
  obtain⟨m4,aC,_⟩:=i4;simp only [qaX,qa1,qaV,qbA] at aC;exact aC.1
 subst aR;have I:=qcm I;have U:=(setRow_other J g3 g4 #[.bool b3,.slice a3 n3 c3] (fun e=>hne e.symm)).trans h4;refine hSn 13 2 h3 (hx:=by exact e11) (hy:=by exact e6) (h:=⟨qS I ai _,?_⟩);refine hSt 14 2 U (hx:=by exact e12) (hy:=by exact e10) (h:=⟨qS (qS I ai _) aB _,?_⟩);have l1:=(qG H2.o.2.2).1;obtain⟨W5,H⟩:=qY ((J.setRow g3 #[.bool b3,.slice a3 n3 c3]).setRow g4 #[.bool false,.slice a4 n4 c4]);have aa:Below E.heap.size E W5:=H▸qS (qS I ai _) aB _;have Y:Kn (fun W=>Below w.heap.size w W/\W.heap[w.heap.size+1+1]? = some (.cells #[.bool false,.slice none 0 0] 105 (0,0))/\W.heap[w.heap.size+1+1+1]? = some (.cells #[.bool false,.slice none 0 0] 105 (0,0)) /\
   W.heap[g3]? = some (.cells #[.bool b3,.slice a3 n3 c3] 105 (0,0))/\W.heap[g4]? = some (.cells #[.bool false,.slice a4 n4 c4] 105 (0,0))/\qca W (.agg #[.bool b3,.slice a3 n3 c3]) X/\qca W (.agg #[.bool false,.slice a4 n4 c4]) 0) W5 :=
  .of ⟨H2.o.1.trans (aa.mono H2.o.1.size),zkeep aa _ _ H2.o.2.1,zkeep aa _ _ H2.o.2.2,H▸(setRow_other _ _ _ _ hne).trans (qT _ _ _ _ _ _ h3),H▸qT _ _ _ _ _ _ U,
   H▸qcd (qcd i3.1 h3 (nd2 _ _ _ _)) U (nd2 _ _ _ _),H▸qcd (qcd i4 h3 (nd2 _ _ _ _)) U (nd2 _ _ _ _)⟩
 rw [<-H];have HI:=qH i3.2;have k1:∀W,Rows2 g3 g4 (.cells #[.bool b3,.slice a3 n3 c3] 105 (0,0)) (.cells #[.bool false,.slice a4 n4 c4] 105 (0,0)) W->W.cell? ⟨g3,0,none⟩=some (.bool b3)/\W.cell? ⟨g3,1,none⟩=some (.slice a3 n3 c3)/\W.cell? ⟨g4,0,none⟩=some (.bool false)/\W.cell? ⟨g4,1,none⟩=some (.slice a4 n4 c4) :=
  fun W h=>⟨qC _ _ 0 _ _ _ h.1,qC _ _ 1 _ _ _ h.1,qC _ _ 0 _ _ _ h.2,qC _ _ 1 _ _ _ h.2⟩
 have aQ:Rows2 g3 g4 (.cells #[.bool b3,.slice a3 n3 c3] 105 (0,0)) (.cells #[.bool false,.slice a4 n4 c4] 105 (0,0)) W5:=⟨Y.o.2.2.2.1,Y.o.2.2.2.2.1⟩;clear C0 C1 h3 h4 U i3 i4 I aa Z hE H hS0;go_wp2_with fail;refine wp_region_held_drew (S:=Rows2 g3 g4 (.cells #[.bool b3,.slice a3 n3 c3] 105 (0,0)) (.cells #[.bool false,.slice a4 n4 c4] 105 (0,0))) (by kernel_rfl) aQ (fun hS0=>?_);refine hT 0 (h:=hT 1 (h:=?_));have o3:=(setRow_other W5.drew (w.heap.size+1+1) (w.heap.size+1+1+1) #[.bool b3,.slice a3 n3 c3] (by omega)).trans Y.o.2.2.1;have sr:∀(W:World) (g:Nat) (cs:Array Value),Rows2 g3 g4 (.cells #[.bool b3,.slice a3 n3 c3] 105 (0,0)) (.cells #[.bool false,.slice a4 n4 c4] 105 (0,0)) W->g3≠g->g4≠g->Rows2 g3 g4 (.cells #[.bool b3,.slice a3 n3 c3] 105 (0,0)) (.cells #[.bool false,.slice a4 n4 c4] 105 (0,0)) (W.setRow g cs):=fun W g cs h h1 h2=>⟨(setRow_other _ _ _ _ h1).trans h.1,(setRow_other _ _ _ _ h2).trans h.2⟩
 refine hSn 2 2 (show W5.drew.heap[_]? = _ from Y.o.2.1) (h:=⟨sr _ _ _ hS0 (by omega) (by omega),?_⟩);refine hSt 3 2 o3 (h:=⟨sr _ _ _ (sr _ _ _ hS0 (by omega) (by omega)) (by omega) (by omega),?_⟩);go_wp2_with fail;exact qR (v:=.tuple #[.agg #[.bool b3,.slice a3 n3 c3],.agg #[.bool false,.slice a4 n4 c4]]) (qmB rfl _ _ (w.heap.size+1+1) (w.heap.size+1+1+1) 105 _ _ _ rfl rfl ((setRow_other _ _ _ _ (by omega)).trans (qT _ _ _ _ _ _ Y.o.2.1)) (qT _ _ _ _ _ _ o3) underlying105 rfl 2 (by kernel_rfl) rfl rfl) rfl
  ⟨_,_,rfl,qS (qS Y.o.1.drew (by omega) _) (by omega) _,qcd (qcd (Y.o.2.2.2.2.2.1.below qB.drew) Y.o.2.1 (nd2 _ _ _ _)) o3 (nd2 _ _ _ _),qcd (qcd (Y.o.2.2.2.2.2.2.below qB.drew) Y.o.2.1 (nd2 _ _ _ _)) o3 (nd2 _ _ _ _),HI.o⟩
theorem qmi (n d:Int) (hd:0<d) (K:Nat) (hK:K<=1) (v u:Value) (w:World) (hv:qca w v n) (hu:qca w u d) (fn:Fit n.natAbs K) (fd:Fit d.natAbs K) :
  Calls prog 97 #[v,u] w fun e w'=>∃u,e=.returned u/\Below w.heap.size w w'/\qcv w' u (Rat.divInt n d)/\HiR w.heap.size u:=by
 obtain⟨q,hq⟩:=qX (Rat.divInt n d);rw [hq];have HF:=qH (qA fn (qA fd (qA hd (qA hq (qA hv hu)))));obtain⟨m,rfl,am,bm,om,cm,nm,M,rfl,_,_⟩:=hv;obtain⟨o,rfl,ao,bo,oo,co,no,O,rfl,_,_⟩:=hu;generalize aO:decide (n<0)=b0 at *;generalize aS:decide (d<0)=bd at *;have aA:=qH (qA aO aS);clear fn fd aO aS hq;obtain⟨W1,aN,K1⟩:=kn3 w #[.bool b0,.slice am nm cm] 105 #[.bool bd,.slice ao no co] 105 #[.bool false,.slice none 0 0,.bool false,.slice none 0 0] 107;have bD:=qC W1 _ 0 _ _ _ K1.o.2.2.1;go_enter func97,ntmps97;go_upto_region 1 with fail;rw [<-aN];clear aN
 go_upto_if 11 with fail
 go_cut [12] from 12 (fun _ W=>∃b0 am nm cm ao no co,LowSt w q K W b0 am nm cm ao no co)
 case first =>
  have l2:=(qG K1.o.2.2.2).1;obtain rfl:bd=false:=by rw [<-aA.o.2];exact qU (by have:=HF.o.2.2.1;omega)
  have bG:¬d<0:=of_decide_eq_false aA.o.2;go_wp2;go_meet;exact⟨_,_,_,_,_,_,_,⟨n,d,by omega,HF.o.2.2.2.1,HF.o.1,HF.o.2.1,HF.o.2.2.2.2.1.below K1.o.1,HF.o.2.2.2.2.2.below K1.o.1⟩,K1.o⟩
 case rest =>
  clear HF aA K1 bD hd;obtain⟨b0,am,nm,cm,ao,no,co,⟨n,d,hd,hq,fn,fd,hv,hu⟩,hb,r0,r1,r2⟩:=hcut;obtain⟨l1,l2⟩:=low_num n d hd;obtain⟨G,hG⟩:=qX (n.natAbs.gcd d.natAbs);have bC:0<G:=by rw [<-hG];exact qbe _ (by omega)
  have aC:Fit G K:=fd.le (by rw [<-hG];exact Nat.gcd_le_right _ (by omega));have aM:n.natAbs % G=0:=by rw [<-hG];exact Nat.mod_eq_zero_of_dvd (qbT _ _)
  have aL:d.natAbs % G=0:=by rw [<-hG];exact Nat.mod_eq_zero_of_dvd (qa4 _ _)
  rw [hG,hq] at l1 l2;have HG:=qH (fun (W:World) (h:Below wc.heap.size wc W)=>qku n d K hK _ _ W (hv.below h) (hu.below h) fn fd);have bf:Hu (n.natAbs.gcd d.natAbs=G):=qH hG;have HN:=qH (fun (W:World) (g:Value) (h:Below wc.heap.size wc W) (hg:qca W g (G:Int))=>qgI n G K hK _ g W (hv.below h) hg fn (by simpa using aC) (by omega) (by simpa using aM));have HD:=qH (fun (W:World) (g:Value) (h:Below wc.heap.size wc W) (hg:qca W g (G:Int))=>qgI d G K hK _ g W (hu.below h) hg fd (by simpa using aC) (by omega) (by simpa using aL));have HL:=qH (qA l1 (qA l2 hd));have HB:=qH hb;have HR:=qH (qA (Below.refl wc.heap.size wc) (qA r0 (qA r1 r2)));clear l1 l2 hG bC aC aM aL fn fd hv hu r0 r1 r2 hb hq
  go_wp2_with (first | (with_reducible refine lW_ rfl 105 _ rfl (w.heap.size) #[.bool b0,.slice am nm cm] HR.o.2.1 underlying105 2 ?_) | (with_reducible refine lW_ rfl 105 _ rfl (w.heap.size+1) #[.bool false,.slice ao no co] HR.o.2.2.1 underlying105 2 ?_))
  refine (HG.o _ qB).mono ?_;rintro e w2 ⟨vg,rfl,aP,ax⟩;rw [bf.o] at ax;obtain⟨bg,ag,ng,cg,rfl⟩:=ax.shape;obtain⟨W2,af⟩:=qY (w2.alloc (.cells #[.bool bg,.slice ag ng cg] 105));have aj:Below wc.heap.size wc W2:=af▸qb4 aP qN;have az:qca W2 (.agg #[.bool bg,.slice ag ng cg]) (G:Int):=ax.below (af▸qb4 qB qN);have row:∀(g:Nat) (o:Obj),wc.heap[g]? = some o->W2.heap[g]? = some o:=zkeep aj;have rg:W2.heap[w2.heap.size]? = some (.cells #[.bool bg,.slice ag ng cg] 105 (0,0)):=by rw [af];exact qM _ _ _ rfl
  have H2:=qH (qA (HR.o.1.trans (aj.mono HR.o.1.size)) (qA (row _ _ HR.o.2.1) (qA (row _ _ HR.o.2.2.1) (qA (row _ _ HR.o.2.2.2) (qA rg az)))));have aK:=qH af;clear aP ax aj az row rg af;have F0:=H2.o.2.1;have Fg:=H2.o.2.2.2.2.1;rw [aK.o] at F0 Fg;have aI:=qH (qA F0 Fg);clear F0 Fg
  go_wp2_with (first | ((with_reducible refine qcC rfl 105 _ _ rfl _ #[.bool bg,.slice ag ng cg] ?_ ?_ 2 ?_ ?_ ?_ ?_ ?_);(next=>rfl);(next=>rfl);(next=>kernel_rfl);(next=>rfl);(next=>rfl);(next=>rfl)) | (with_reducible refine lW_ rfl 105 _ rfl (w.heap.size) #[.bool b0,.slice am nm cm] aI.o.1 underlying105 2 ?_) | (with_reducible refine lW_ rfl 105 _ rfl (w2.heap.size) #[.bool bg,.slice ag ng cg] aI.o.2 underlying105 2 ?_))
  rw [<-aK.o];refine (HN.o _ _ H2.o.1 H2.o.2.2.2.2.2).mono ?_;rintro e w4 ⟨p4,q4,rfl,av,aF,aH,aT⟩;obtain⟨I,F,V,J,rfl⟩:=aF.shape;obtain⟨bv,bq,bE,bA,rfl⟩:=aH.shape;have aY:=qH (aT.mono (qak HB.o.size H2.o.1.size));clear aT;have ay:Below wc.heap.size wc w4:=H2.o.1.trans (av.mono H2.o.1.size);have aa:∀(g:Nat) (o:Obj),W2.heap[g]? = some o->w4.heap[g]? = some o:=zkeep av;have H4:=qH (qA ay (qA (aa _ _ H2.o.2.2.1) (qA (aa _ _ H2.o.2.2.2.1) (qA (aa _ _ H2.o.2.2.2.2.1) (qA (H2.o.2.2.2.2.2.below av) (qA aF aH))))));clear av aF aH ay aa;obtain⟨W5,ah⟩:=qY ((w4.alloc (.cells #[.bool I,.slice F V J] 105)).alloc (.cells #[.bool bv,.slice bq bE bA] 105));have E:Below w4.heap.size w4 W5:=ah▸qb4 (qb4 qB qN) qN;have ae:∀(g:Nat) (o:Obj),w4.heap[g]? = some o->W5.heap[g]? = some o:=zkeep E;have rp:W5.heap[w4.heap.size]? = some (.cells #[.bool I,.slice F V J] 105 (0,0)):=by rw [ah,qL _ _ _ (by simp only [qab];omega)];exact qM _ _ _ rfl
  have H5:=qH (qA (H4.o.1.trans (E.mono H4.o.1.size)) (qA (ae _ _ H4.o.2.1) (qA (ae _ _ H4.o.2.2.1) (qA (ae _ _ H4.o.2.2.2.1) (qA (H4.o.2.2.2.2.1.below E) (qA rp (H4.o.2.2.2.2.2.1.below E)))))));have F1:=H5.o.2.1;have Fg:=H5.o.2.2.2.1;rw [ah] at F1 Fg;have aJ:=qH (qA F1 Fg);have bi:=qH ah;clear E ae rp F1 Fg ah
  go_wp2_with (first | (with_reducible refine lW_ rfl 105 _ rfl (w.heap.size+1) #[.bool false,.slice ao no co] aJ.o.1 underlying105 2 ?_) | (with_reducible refine lW_ rfl 105 _ rfl (w2.heap.size) #[.bool bg,.slice ag ng cg] aJ.o.2 underlying105 2 ?_))
  rw [<-bi.o];refine (HD.o _ _ H5.o.1 H5.o.2.2.2.2.1).mono ?_;rintro e w6 ⟨p6,q6,rfl,aD,aG,aV,aU⟩;obtain⟨aB,H,Y,U,rfl⟩:=aG.shape;obtain⟨bz,bu,bF,bB,rfl⟩:=aV.shape;have aZ:=qH (aU.mono (qak HB.o.size H5.o.1.size));clear aU;obtain⟨W7,ai⟩:=qY ((w6.alloc (.cells #[.bool aB,.slice H Y U] 105)).alloc (.cells #[.bool bz,.slice bu bF bB] 105));have ak:Below w6.heap.size w6 W7:=ai▸qb4 (qb4 qB qN) qN;have Z:Below W5.heap.size W5 W7:=aD.trans (ak.mono aD.size);have au:∀(g:Nat) (o:Obj),W5.heap[g]? = some o->W7.heap[g]? = some o:=zkeep Z;have aX:W7.heap[w6.heap.size]? = some (.cells #[.bool aB,.slice H Y U] 105 (0,0)):=by rw [ai,qL _ _ _ (by simp only [qab];omega)];exact qM _ _ _ rfl
  have aR:Below w.heap.size w W7:=HB.o.trans ((H5.o.1.trans (Z.mono H5.o.1.size)).mono HB.o.size);have rr:=au _ _ H5.o.2.2.1;have hq:=qjS (q:=q) (H5.o.2.2.2.2.2.2.below Z) (aG.below ak) HL.o.1 (by rw [if_neg (show ¬d<0 by have:=HL.o.2.2;omega),qas];exact HL.o.2.1);have aQ:aB=false:=by
   obtain⟨m6,o6,h6,_⟩:=hq;simp only [qaX,qa1,qaV,qbA] at h6;exact h6.2.2.1
  subst aQ;have aW:=qgJ (cs':=#[.bool I,.slice F V J,.bool false,.slice H Y U]) hq rr (nd4 _ _ _ _ _ _ _ _);have G0:=au _ _ H5.o.2.2.2.2.2.1;have G1:=aX;have G2:=rr;rw [ai] at G0 G1 G2;have H7:=qH (qA G0 (qA G1 (qA G2 (qA rr (qA aW (qS aR (show w.heap.size<=w.heap.size+1+1 by omega) #[.bool I,.slice F V J,.bool false,.slice H Y U]))))));have bn:=qH ai;clear aD aG aV ak Z au aX aR rr hq aW G0 G1 G2 ai
  go_wp2_with (first | (with_reducible refine lW_ rfl 105 _ rfl (w4.heap.size) #[.bool I,.slice F V J] H7.o.1 underlying105 2 ?_) | (with_reducible refine lW_ rfl 105 _ rfl (w6.heap.size) #[.bool false,.slice H Y U] H7.o.2.1 underlying105 2 ?_) | (with_reducible refine sR_ rfl 107 _ _ rfl (w.heap.size+1+1) #[.bool I,.slice F V J,.bool false,.slice H Y U] H7.o.2.2.1 4 ?_))
  rw [<-bn.o];exact qR (v:=.agg #[.bool I,.slice F V J,.bool false,.slice H Y U]) (rA_ rfl (w.heap.size+1+1) (qT _ _ _ _ _ _ H7.o.2.2.2.1) underlying107 4) rfl ⟨_,rfl,H7.o.2.2.2.2.2,H7.o.2.2.2.2.1,hir_of (aY.o _ _ rfl) (aZ.o _ _ rfl)⟩
theorem qoC (n d:Int) (hn:-10000<n/\n<10000) (hd:0<d) (au:d<10000) (w:World) :
  Calls prog 51 #[.int .i64 n,.int .i64 d] w fun e w'=>∃u,e=.returned u/\Below w.heap.size w w'/\qcv w' u (Rat.divInt n d):=by
 have HN:=qH (fun (W:World)=>qkA n ⟨by omega,by omega⟩ W);have HD:=qH (fun (W:World)=>qhf d (by omega) ⟨by omega,by omega⟩ W);have HL:=qH (fun (W:World) (v u:Value) (hv:qca W v n) (hu:qca W u d)=>qmi n d hd 1 (by decide) v u W hv hu (show n.natAbs<10000 ^ 1 by omega) (show d.natAbs<10000 ^ 1 by omega));obtain⟨W1,E⟩:=qY (w.alloc (.cells #[.bool false,.slice none 0 0,.bool false,.slice none 0 0] 107));have Y:Below w.heap.size w W1:=E▸qb4 qB qN;have ae:W1.heap[w.heap.size]? = some (.cells #[.bool false,.slice none 0 0,.bool false,.slice none 0 0] 107 (0,0)):=by rw [E];exact qM _ _ _ rfl
 have H1:=qH (qA Y ae);clear Y ae;go_enter func51,ntmps51;go_wp2_with fail;rw [<-E];clear E;refine (HN.o _).mono ?_;rintro e w2 ⟨v2,rfl,H,J⟩;have H2:=qH (qA (H1.o.1.trans (H.mono H1.o.1.size)) (qA (zkeep H _ _ H1.o.2) J));obtain⟨ah,af,av,aj,rfl⟩:=J.shape;clear H J;go_wp2_with fail;refine (HD.o _).mono ?_;rintro e w3 ⟨v3,rfl,F,O⟩;have V:=qH (qA (H2.o.1.trans (F.mono H2.o.1.size)) (qA (zkeep F _ _ H2.o.2.1) (qA (H2.o.2.2.below F) O)));obtain⟨ai,ag,ax,ak,rfl⟩:=O.shape;clear F O;go_wp2_with fail;refine (HL.o _ _ _ V.o.2.2.1 V.o.2.2.2).mono ?_;rintro e w4 ⟨v4,rfl,I,U,_⟩;obtain⟨b4,a4,n4,c4,a5,n5,c5,rfl⟩:=U.shape;have rr:=zkeep I _ _ V.o.2.1;have Z:=V.o.1.trans (I.mono V.o.1.size);have aa:=qgJ (cs':=#[.bool b4,.slice a4 n4 c4,.bool false,.slice a5 n5 c5]) U rr (nd4 _ _ _ _ _ _ _ _);have H4:=qH (qA rr (qA aa (qS Z qN #[.bool b4,.slice a4 n4 c4,.bool false,.slice a5 n5 c5])));clear I U rr Z aa
 go_wp2_with (with_reducible refine sR_ rfl 107 _ _ rfl (w.heap.size) #[.bool b4,.slice a4 n4 c4,.bool false,.slice a5 n5 c5] H4.o.1 4 ?_)
 exact qR (v:=.agg #[.bool b4,.slice a4 n4 c4,.bool false,.slice a5 n5 c5]) (rA_ rfl (w.heap.size) (qT _ _ _ _ _ _ H4.o.1) underlying107 4) rfl ⟨_,rfl,H4.o.2.2,H4.o.2.1⟩
end Go.Proofs.YtjalhnlhcdfncaaGreatDoor.p4
namespace Go.Proofs.YtjalhnlhcdfncaaGreatDoor
open Go.RowKit Go.Proofs.Tryz
structure Dr where
 n0:Bool
 n1:List Int
 n2:Int
 d0:Bool
 d1:List Int
 d2:Int
structure DrOk (d:Dr):Prop where
 l1:d.n1.length<=9223372036854775807
 l2:d.d1.length<=9223372036854775807
 g1:∀k,0<=d.n1.getD k 0/\d.n1.getD k 0<65536
 g2:∀k,0<=d.d1.getD k 0/\d.d1.getD k 0<65536
def Dr.a (d:Dr):Int:=(small d.n0 d.n1).tmod 1000
def Dr.z (d:Dr):Int:=1+((small d.d0 d.d1).natAbs:Int) % 60
def Dr.q (d:Dr):Rat:=Rat.divInt d.a d.z
theorem Dr.a_le (d:Dr):-1000<d.a/\d.a<1000:=⟨Int.lt_tmod_of_pos _ (by decide),Int.tmod_lt_of_pos _ (by decide)⟩
theorem Dr.z_le (d:Dr):1<=d.z/\d.z<=60:=by
 unfold Dr.z;omega
theorem Dr.rb (d:Dr):Rb d.q 1000:=by
 have E:=d.a_le;have F:=d.z_le;refine qip (p:=d.a) (z:=d.z) (by omega) (by omega) (by omega) ?_;unfold Dr.q;rw [Rat.divInt_eq_div]
theorem Dr.short (d:Dr):Short d.q:=qdM d.rb (by decide +kernel)
theorem qoY (d:Dr) (a1 a2:Option Addr) (b1 o1 c1 b2 o2 c2:Nat) (w:World) (E:DrOk d) (h1:KCells w .u16 a1 b1 o1 d.n1) (h2:KCells w .u16 a2 b2 o2 d.d1) :
  Calls prog 36 #[.agg #[.bool d.n0,.slice a1 d.n1.length c1,.int .u16 d.n2,.bool d.d0,.slice a2 d.d1.length c2,.int .u16 d.d2]] w fun e w'=>e=.returned (fstr d.q)/\Below w.heap.size w w':=by
 obtain⟨W1,Z,N1⟩:=nw2 w #[.bool d.n0,.slice a1 d.n1.length c1,.int .u16 d.n2,.bool d.d0,.slice a2 d.d1.length c2,.int .u16 d.d2] 89 #[.string ⟨#[]⟩,.string ⟨#[]⟩] 27;have HN:=qH (fun (W:World) (I:Below w.heap.size w W)=>qjZ d.n0 a1 b1 o1 d.n1.length c1 d.n1 d.n2 W rfl E.l1 (h1.below I) E.g1);have HD:=qH (fun (W:World) (I:Below w.heap.size w W)=>qjZ d.d0 a2 b2 o2 d.d1.length c2 d.d1 d.d2 W rfl E.l2 (h2.below I) E.g2);have ai:=qlM E.g1 d.n0;have aj:=qlM E.g2 d.d0;have ha:=d.a_le;have hz:=d.z_le;have U:=d.rb;have F:=d.short;obtain⟨q,hq⟩:=qX d.q;have O:q=Rat.divInt d.a d.z:=by rw [<-hq];rfl
 obtain⟨x,hx⟩:=qX (small d.n0 d.n1);obtain⟨y,hy⟩:=qX (small d.d0 d.d1);have J:d.a=x.tmod 1000:=by unfold Dr.a;rw [hx]
 have V:d.z=1+(y.natAbs:Int) % 60:=by unfold Dr.z;rw [hy]
 rw [hx] at HN ai;rw [hy] at HD aj;rw [hq] at U F ⊢;rw [J,V] at O;rw [J] at ha;rw [V] at hz;have k3:=qC _ _ 3 _ _ _ N1.o.2.1;have k4:=qC _ _ 4 _ _ _ N1.o.2.1;have k5:=qC _ _ 5 _ _ _ N1.o.2.1;have HQ:=qH (qA O (qA U F));clear O U F hq hx hy J V E h1 h2;go_enter func36,ntmps36;go_upto_region 1 with fail;rw [<-Z];clear Z;go_wp2_with fail;refine (HD.o _ N1.o.1).mono ?_;rintro e w2 ⟨rfl,I⟩;have Y:=N1.below I;clear I N1 k3 k4 k5
 go_upto_if 10 with fail
 go_cut [3] (fun x3 W=>x3=.int .i64 (y.natAbs:Int)/\Hu (W=w2))
 case first =>
  by_cases hy:y<0
  ·go_wp2;go_meet;exact⟨by congr 1;omega,qH rfl⟩
  ·go_wp2;go_meet;exact⟨by congr 1;omega,qH rfl⟩
 case rest =>
  obtain⟨rfl,ae⟩:=hcut;obtain rfl:=ae.o;have k0:=qC _ _ 0 _ _ _ Y.o.2.1;have k1:=qC _ _ 1 _ _ _ Y.o.2.1;have k2:=qC _ _ 2 _ _ _ Y.o.2.1;clear ae;go_wp2_with fail;refine (HN.o _ Y.o.1).mono ?_;rintro e w3 ⟨rfl,I⟩;have K3:=Y.below I;clear I Y k0 k1 k2;go_wp2_with fail;refine (p4.qoC _ _ ⟨by omega,by omega⟩ (by omega) (by omega) _).mono ?_;rintro e w4 ⟨u,rfl,af,hu⟩;rw [<-HQ.o.1] at hu;have K4:=K3.below af;obtain⟨b4,a4,n4,c4,a5,n5,c5,rfl⟩:=hu.shape;have h5:(1000:Nat)<10000 ^ 5:=by decide
  have HO:=qH (p4.rout_any q 5 (by decide) (by decide) _ _ hu (qaU HQ.o.2.1.1 h5) (qaU HQ.o.2.1.2 h5));clear af hu K3 h5;go_wp2_with fail;refine HO.o.mono ?_;rintro e w5 ⟨⟨_,rfl⟩ | ⟨ah,_⟩,ag⟩
  ·have K5:=K4.below ag;obtain⟨W6,aa,N6⟩:=nw1 w5 #[.string (ftxt q).1,.string (ftxt q).2] 27;clear ag K4 HO;rw [qe7];go_upto_region 5 with fail;rw [<-aa];clear aa;have K6:=K5.below N6.o.1;have F:=qS K6.o.1 (g:=w.heap.size+1) (qbf _) #[.string (ftxt q).1,.string (ftxt q).2];have H:=qH (qA N6.o.2 (qA K6.o.2.2 F));clear F K5 K6 N6
   go_wp2_with (first | (with_reducible refine lW_ rfl 27 _ rfl (w5.heap.size) #[.string (ftxt q).1,.string (ftxt q).2] H.o.1 underlying27 2 ?_) | (with_reducible refine sR_ rfl 27 _ _ rfl (w.heap.size+1) #[.string (ftxt q).1,.string (ftxt q).2] H.o.2.1 2 ?_))
   exact qR (v:=.agg #[.string (ftxt q).1,.string (ftxt q).2]) (rA_ rfl (w.heap.size+1) (qT _ _ _ _ _ _ H.o.2.1) underlying27 2) rfl ⟨rfl,H.o.2.2⟩
  ·exact absurd HQ.o.2.2 ah
def dr0:Dr:=⟨false,[],0,false,[],0⟩
def DrAt (W:World) (b off:Nat) (d:Dr):Prop :=
 ∃(E:Option Addr) (F I c1:Nat) (a2:Option Addr) (H J c2:Nat),(W.cell? ⟨b,off,none⟩=some (.bool d.n0)/\W.cell? ⟨b,off+1,none⟩=some (.slice E d.n1.length c1)/\W.cell? ⟨b,off+2,none⟩=some (.int .u16 d.n2)/\W.cell? ⟨b,off+3,none⟩=some (.bool d.d0)/\W.cell? ⟨b,off+4,none⟩=some (.slice a2 d.d1.length c2)/\W.cell? ⟨b,off+5,none⟩=some (.int .u16 d.d2)) /\
  KCells W .u16 E F I d.n1/\KCells W .u16 a2 H J d.d1
theorem DrAt.below {W W':World} {b off:Nat} {d:Dr} (h:DrAt W b off d) (E:Below W.heap.size W W'):DrAt W' b off d:=by
 obtain⟨a1,b1,o1,c1,a2,b2,o2,c2,⟨F,H,I,J,O,U⟩,k1,k2⟩:=h;have l:∀{p:Addr} {v:Value},W.cell? p=some v->W'.cell? p=some v:=fun {p v} h=>(E.cell (qae W _ h)).trans h
 exact⟨a1,b1,o1,c1,a2,b2,o2,c2,⟨l F,l H,l I,l J,l O,l U⟩,k1.below E,k2.below E⟩
structure DrCells (W:World) (ao:Option Addr) (b off:Nat) (L:List Dr):Prop where
 addr:0<L.length->ao=some ⟨b,off,none⟩
 cell:∀k,k<L.length->DrAt W b (off+k*6) (L.getD k dr0)
 ok:∀k,k<L.length->DrOk (L.getD k dr0)
theorem DrCells.below {W W':World} {E:Option Addr} {b off:Nat} {L:List Dr} (h:DrCells W E b off L) (F:Below W.heap.size W W'):DrCells W' E b off L:=⟨h.addr,fun k H=>(h.cell k H).below F,h.ok⟩
