import Derived.Maps.Own
import Derived.Maps.OwnOps
import Derived.Maps.Views
import Derived.Test.YtplkdeknjghobaaGreatDoorBe18
set_option maxRecDepth 100000
set_option maxHeartbeats 0
namespace Go.Proofs.YtplkdeknjghobaaGreatDoor
open Go.RowKit Go.Maps
def rawR (v:Value):Option (DataW Value×List MemPlace):=some (.held v,[])
def MapAt (W:World) (P:Program) (k:TypeId) (b n:Nat) (z:Value) (f:Lit->Value):Prop :=
 ∃D,W.ownsMap P k rawR b n D/\IsMap D/\∀kl,WideAt.IsKeyLit kl->D.atKey kl (.held z)=.held (f kl)
theorem MapAt.made (w:World) (P:Program) (k:TypeId) (z:Value):MapAt (w.alloc (.map #[] 0)) P k w.heap.size 0 z fun _=>z :=
 ⟨_,World.ownsMap_made _ _ _ _,isMap_empty,fun _ _=>rfl⟩
theorem MapAt.lt {W:World} {P:Program} {k:TypeId} {b n:Nat} {z:Value} {f:Lit->Value} (h:MapAt W P k b n z f):b<W.heap.size:=by
 obtain⟨D,h,_⟩:=h;exact h.lt
theorem MapAt.kept {W W':World} {P:Program} {k:TypeId} {b n:Nat} {z:Value} {f:Lit->Value} {row:Option Nat} (h:MapAt W P k b n z f) (hg:W.grownBy W' row) (hne:some b≠row):MapAt W' P k b n z f:=by
 obtain⟨D,h,h2,h3⟩:=h;exact⟨D,h.kept hg hne,h2,h3⟩
theorem MapAt.below {W W':World} {P:Program} {k:TypeId} {b n:Nat} {z:Value} {f:Lit->Value} (h:MapAt W P k b n z f) (hb:Below W.heap.size W W'):MapAt W' P k b n z f :=
 h.kept (row:=none) ⟨hb.os,hb.tape,hb.output,hb.size,fun i hi _=>hb.block i hi⟩ (by simp)
theorem MapAt.congr {W:World} {P:Program} {k:TypeId} {b n:Nat} {z:Value} {f g:Lit->Value} (h:MapAt W P k b n z f) (e:∀kl,WideAt.IsKeyLit kl->f kl=g kl):MapAt W P k b n z g:=by
 obtain⟨D,h,h2,h3⟩:=h;exact⟨D,h,h2,fun kl hk=>by rw [h3 kl hk,e kl hk]⟩
theorem MapAt.look {W:World} {P:Program} {k t e:TypeId} {b n:Nat} {z:Value} {f:Lit->Value} (h:MapAt W P k b n z f) (K:Keyed P k) (ht:P.underlying t=some (.map k e)) (hz:(zeroValue e).run P W=.ok z W) {key:Value} {kl:Lit} (hkey:keyOf P k key=some kl) :
  (Instr.lookup t (.map (some b)) key false).run P W=.ok (f kl) W:=by
 obtain⟨D,h,_,h3⟩:=h;obtain⟨v,ps,hr,hv⟩:=h.lookup K ht hz (zd:=.held z) (zp:=[]) rfl hkey;rw [h3 kl (K.key hkey)] at hv;unfold rawR at hv;simp only [Option.some.injEq,Prod.mk.injEq,DataW.held.injEq] at hv;rw [<-hv.1];exact hr
theorem MapAt.store {W:World} {P:Program} {k t e:TypeId} {b n:Nat} {z:Value} {f:Lit->Value} (h:MapAt W P k b n z f) (K:Keyed P k) (ht:P.underlying t=some (.map k e)) (hn:n<maxLen) {key:Value} {kl:Lit} (hkey:keyOf P k key=some kl) (val:Value) :
  ∃W',(Instr.mapUpdate t (.map (some b)) key val).run P W=.ok () W'/\(∀f':Lit->Value,f' kl=val->(∀x,x≠kl->f' x=f x)->MapAt W' P k b (n+1) z f')/\W.grownBy W' (some b):=by
 obtain⟨D,h,h2,h3⟩:=h;obtain⟨W',hr,hown,hg⟩:=h.update K ht hn hkey (show rawR val=some (.held val,[]) from rfl);refine⟨W',hr,fun f' e1 e2=>⟨_,hown,h2.put _ _,fun x hx=>?_⟩,hg⟩
 by_cases e:x=kl
 ·subst e;rw [e1];exact atKey_put_same h2 hx _ _
 ·rw [e2 x e,atKey_put_other e];exact h3 x hx
end Go.Proofs.YtplkdeknjghobaaGreatDoor
namespace Go.Proofs.YtplkdeknjghobaaGreatDoor
open Go Go.RowKit
instance stays_int {v:Value} {z:Int}:Stays fun W=>IntAt W v z:=⟨fun h hb=>h.below hb⟩
instance stays_mag {v:Value} {x:Nat}:Stays fun W=>MagAt W v x:=⟨fun h hb=>h.below hb⟩
instance stays_rat {v:Value} {q:Rat}:Stays fun W=>RatV W v q:=⟨fun h hb=>h.below hb⟩
instance stays_fc {ao:Option Addr} {b off:Nat} {l:List FT}:Stays fun W=>FCells W ao b off l:=⟨fun h hb=>h.below hb⟩
instance stays_nc {ao:Option Addr} {b off:Nat} {l:List Int}:Stays fun W=>NCells W ao b off l:=⟨fun h hb=>h.below hb⟩
instance stays_pc {ao:Option Addr} {b off:Nat} {l:List Pt}:Stays fun W=>PCells W ao b off l:=⟨fun h hb=>h.below hb⟩
instance stays_tab:Stays fun W=>HasT W:=⟨fun h hb=>h.below hb⟩
theorem qb6 (q:Rat):∃s t,ftxt q=(s,t):=⟨_,_,rfl⟩
theorem mulq {p q:Rat} (sp:Short p) (sq:Short q) (sz:Short (p*q)) (w:World) (hT:HasT w) :
  Calls Tryz.prog 26 #[.agg #[.string (ftxt p).1,.string (ftxt p).2],.agg #[.string (ftxt q).1,.string (ftxt q).2]] w fun e w'=>e=.returned (.tuple #[.agg #[.string (ftxt (p*q)).1,.string (ftxt (p*q)).2],.int .i64 0])/\Below w.heap.size w w':=by
 refine (fmul_any _ _ _ _ w hT).mono ?_;rintro e w' ⟨⟨_,h⟩ | ⟨h,_⟩,hb⟩
 ·rw [qcD,qcD] at h;rcases h with ⟨_,h⟩ | ⟨h,_⟩
  ·exact⟨h,hb⟩
  ·exact absurd sz h
 ·exact absurd ⟨qcZ sp,qcZ sq⟩ h
theorem qmf {z d:Int} (hd:0<d) (hz:z.natAbs<1000000000000000000000) (hd2:d.natAbs<1000000000000000000000):Valid (frac.wtxt z).data.toList/\Valid (frac.wtxt d).data.toList/\Fit z.natAbs 3/\Fit d.natAbs 3/\0<d.natAbs :=
 ⟨qf9 (qag hz (by decide +kernel)),qf9 (qag hd2 (by decide +kernel)),qev (by omega),qev (by omega),by omega⟩
theorem qdO {z d:Int} (hd:0<d) (hz:z.natAbs<1000000000000000000000) (hd2:d.natAbs<1000000000000000000000):Short ((z:Rat) / (d:Rat)) :=
 qdd (qhC (N:=1000000000000000000000) (by omega) (by omega) (by omega) rfl) (by decide +kernel)
theorem quo_mk {z d:Int} (hd:0<d):mkRat z d.natAbs=(z:Rat) / (d:Rat):=by
 rw [<-Rat.divInt_ofNat,Rat.divInt_eq_div];have:((d.natAbs:Int):Rat)=(d:Rat):=by rw [Int.natAbs_of_nonneg (by omega)]
 rw [<-this]
theorem quo_fit {z d:Int} (hd:0<d) (hz:z.natAbs<1000000000000000000000) (hd2:d.natAbs<1000000000000000000000):RFit ((z:Rat) / (d:Rat)) 3:=by
 have h:Rb ((z:Rat) / (d:Rat)) 1000000000000000000000:=qhC (by omega) (by omega) (by omega) rfl;exact⟨qev (qaF h.1 (by decide)),qev (qaF h.2 (by decide))⟩
theorem qi4 {s:ByteArray} (h:Valid s.data.toList) (w:World):Calls Tryz.prog 146 #[.string s] w fun e w'=>e=.returned (.int .i64 0)/\Below w.heap.size w w':=by
 refine (qeT s w).mono ?_;rintro e w' ⟨c,rfl,⟨rfl,_⟩ | ⟨_,hn⟩,hb⟩
 ·exact⟨rfl,hb⟩
 ·exact absurd h hn
theorem make_int (z d:Int) (hd:0<d) (hz:z.natAbs<1000000000000000000000) (hd2:d.natAbs<1000000000000000000000) (w:World) (hP:HasT w) :
  Calls Tryz.prog 79 #[.string (frac.wtxt z),.string (frac.wtxt d)] w fun e w'=>e=.returned (.tuple #[fstr ((z:Rat) / (d:Rat)),.int .i64 0])/\Below w.heap.size w w':=by
 obtain⟨va,vb,fa,fb,h0⟩:=qmf hd hz hd2;have hsh:=qdO hd hz hd2;have hfit:=quo_fit hd hz hd2;have hmk:=quo_mk (z:=z) hd;have hia:=qi5 z;have hib:=qi5 d;obtain⟨sa,hsa⟩:∃s,frac.wtxt z=s:=⟨_,rfl⟩;obtain⟨sb,hsb⟩:∃s,frac.wtxt d=s:=⟨_,rfl⟩;rw [hsa] at va hia ⊢;rw [hsb] at vb hib ⊢;have HV:=qH (qA va (qA vb (qA hia hib)));have HF:=qH (qA fa (qA fb (qA h0 (qA hsh (qA hfit (qA hmk hP))))));have Hd:=qH hd;clear hsa hsb va vb fa fb h0 hsh hfit hmk hia hib hP hd hz hd2;obtain⟨W1,hW1,K1⟩:=nw1 w #[.string ⟨#[]⟩,.string ⟨#[]⟩] 44;have HC1:=qH (qi4 HV.out.1 W1);go_enter Tryz.func79,Tryz.ntmps79;go_wp2_with fail;rw [<-hW1];clear hW1;refine HC1.out.mono ?_;rintro e w2 ⟨rfl,hb⟩;have K2:=K1.below hb;clear hb;have HC2:=qH (qi4 HV.out.2.1 w2);go_wp2_with fail;refine HC2.out.mono ?_;rintro e w3 ⟨rfl,hb⟩;have K3:=K2.below hb;clear hb;have HN:=qH (frac.qcy sa HV.out.1 w3);go_wp2_with fail;refine HN.out.mono ?_;rintro e w4 ⟨v4,rfl,hb,hv4⟩;have K4:=K3.on (q:=fun W=>IntAt W v4 z) hb (by rw [<-HV.out.2.2.1];exact hv4);clear hb hv4;have HN2:=qH (frac.qcy sb HV.out.2.1 w4);obtain⟨a4,n4,c4,b4,rfl⟩:=frac.qbT K4.out.2;go_wp2_with fail;refine HN2.out.mono ?_;rintro e w5 ⟨v5,rfl,hb,hv5⟩;have K5:=K4.on (q:=fun W=>IntAt W v5 d) hb (by rw [<-HV.out.2.2.2];exact hv5);clear hb hv5;obtain⟨a5,n5,c5,b5,rfl⟩:=frac.qbT K5.out.2;have hb5:b5=false:=by
  obtain⟨m,e,_⟩:=K5.out.2;simp only [qaJ,qaL,qaH,qbm] at e;rw [e.2.1];exact qU (by have:=Hd.out;omega)
 subst hb5;have hb4:(if b4=true then -(z.natAbs:Int) else (z.natAbs:Int))=z:=by
  obtain⟨m,e,_⟩:=K4.out.2;simp only [qaJ,qaL,qaH,qbm] at e;rw [e.2.1]
  by_cases h:z<0
  ·rw [if_pos (by simpa using h)];omega
  ·rw [if_neg (by simpa using h)];omega
 have hm4:MagAt w5 (.slice a4 n4 c4) z.natAbs:=by
  obtain⟨m,e,hm⟩:=K5.out.1.2;simp only [qaJ,qaL,qaH] at e;rw [e.1];exact hm
 have hm5:MagAt w5 (.slice a5 n5 c5) d.natAbs:=by
  obtain⟨m,e,hm⟩:=K5.out.2;simp only [qaJ,qaL,qaH] at e;rw [e.1];exact hm
 obtain⟨W6,hW6,K6⟩:=nw2 w5 #[.slice a4 n4 c4,.bool b4] 136 #[.slice a5 n5 c5,.bool false] 136;have HM:=qH (qA hm4 (qA hm5 hb4));have K7:=K5.below K6.out.1;have hz0:decide (d.natAbs=0)=false:=qU (by have:=HF.out.2.2.1;omega);have HZ:=qH (frac.qcF d.natAbs _ W6 (HM.out.2.1.below K6.out.1));rw [hz0] at HZ;have c50:=qC W6 _ 0 _ _ _ K6.out.2.2;have hlw:w.heap.size<w5.heap.size:=(qG K5.out.1.1.2).1;clear hb4 hm4 hm5 hz0;go_wp2_with fail;rw [<-hW6];clear hW6;refine HZ.out.mono ?_;rintro e w7 ⟨rfl,hw⟩;have hw:=hw.symm;subst hw;clear c50;have g40:=rowG (g0:=w.heap.size) K6.out.2.1 0;have g41:=rowG (g0:=w.heap.size) K6.out.2.1 1;have g50:=rowG (g0:=w.heap.size) K6.out.2.2 0;have g51:=rowG (g0:=w.heap.size) K6.out.2.2 1;go_wp2_with fail;refine wp_region_held_drew (S:=fun W=>W6.grownBy W (some w.heap.size)) (by kernel_rfl) (keepB qB.drew) (fun hS0=>?_);refine hT 0 (h:=hT 1 (h:=hT 2 (h:=hT 3 (h:=hT 4 (h:=hT 5 (h:=hT 6 (h:=hT 8 (h:=hT 9 (h:=?_)))))))));refine hC 7 (frac.qb3 z.natAbs b4 _ _ ((HM.out.1.below K6.out.1).below qB.drew)) (h:=?_);rintro e w7 ⟨u,rfl,hb7,hu⟩;rw [HM.out.2.2] at hu;obtain⟨au,nu,cu,bu,rfl⟩:=frac.qbT hu;have K8:=K7.below (qb1 hb7);refine⟨_,rfl,qgO hb7,hN (h:=?_)⟩;refine hC 10 (qjx z d.natAbs 3 (by decide) _ _ w7 hu ((HM.out.2.1.below K6.out.1).below (qb1 hb7)) HF.out.1 HF.out.2.1 HF.out.2.2.1) (h:=?_);rintro e w8 ⟨r,rfl,hb8,hr⟩;rw [HF.out.2.2.2.2.2.1] at hr;obtain⟨ar,nr,cr,br,er,fr,gr,rfl⟩:=qcq hr;have hS8:=qcd (qgO (g:=w.heap.size) hb7) hb8;have K9:=K8.below hb8;refine⟨_,rfl,hS8,hN (h:=?_)⟩;refine hC 11 (qeb _ 3 (by decide) (by decide) _ w8 hr HF.out.2.2.2.2.1 (HF.out.2.2.2.2.2.2.below K9.out.1.1.1)) (h:=?_);rintro e w9 ⟨h,hb9⟩;rcases h with ⟨_,rfl⟩ | ⟨h,_⟩
 case inr=>exact absurd HF.out.2.2.2.1 h
 have hS9:=qcd hS8 hb9;have K10:=K9.below hb9;unfold fstr;obtain⟨t1,ht1⟩:∃t,frac.wtxt ((z:Rat) / (d:Rat)).num=t:=⟨_,rfl⟩;obtain⟨t2,ht2⟩:∃t,num ((z:Rat) / (d:Rat)).den=t:=⟨_,rfl⟩;rw [ht1,ht2];refine⟨_,rfl,hS9,hN (h:=?_)⟩;refine hT 12 (h:=hT 13 (h:=?_));refine hSn 14 2 K10.out.1.1.2 (h:=⟨qbU hS9 (qb5 _ _ _),?_⟩);have hS10:=qbU hS9 (qb5 w9 w.heap.size #[.string t1,.string t2]);refine hT 15 (h:=?_);refine wpAnyH_done (by kernel_rfl) ?_ _;have HE:=qH (qA (qS K10.out.1.1.1 qN #[.string t1,.string t2]) K10.out.1.1.2);clear K10 K9 K8 K7 K6 hS10 hS9 hS8 hb9 hb8 hb7 hr hu;go_wp2_with fail;exact qR (v:=.tuple #[.agg #[.string t1,.string t2],.int .i64 0]) (rB_ rfl w.heap.size (qT _ _ _ _ _ _ HE.out.2) Tryz.underlying44 2) rfl ⟨by rw [<-ht1,<-ht2];rfl,HE.out.1⟩
theorem of_int (z d:Int) (hd:0<d) (hz:-9223372036854775808<=z/\z<=9223372036854775807) (hd2:d<=9223372036854775807) (w:World) (hP:HasT w) :
  Calls Tryz.prog 23 #[.int .i64 z,.int .i64 d] w fun e w'=>e=.returned (.tuple #[.agg #[.string (ftxt ((z:Rat) / (d:Rat))).1,.string (ftxt ((z:Rat) / (d:Rat))).2],.int .i64 0])/\Below w.heap.size w w':=by
 obtain⟨t1,t2,ht⟩:=qb6 ((z:Rat) / (d:Rat));rw [ht];obtain⟨W1,hW1,K1⟩:=nw1 w #[.string ⟨#[]⟩,.string ⟨#[]⟩] 44;have HP:=qH hP;have HA:=qH (qnj z hz.1 hz.2 W1 (hP.below K1.out.1));have HB:=qH (fun (W:World) (h:Below w.heap.size w W)=>qnj d (by omega) hd2 W (hP.below h));have HM:=qH (fun (W:World) (h:Below w.heap.size w W)=>make_int z d hd (by omega) (by omega) W (hP.below h));have HT:=qH ht;obtain⟨sz,hsz⟩:∃s,frac.wtxt z=s:=⟨_,rfl⟩;obtain⟨sd,hsd⟩:∃s,frac.wtxt d=s:=⟨_,rfl⟩;rw [hsz] at HA;rw [hsd] at HB;rw [hsz,hsd,qdT,ht] at HM;clear hP ht hd hz hd2 hsz hsd;go_enter Tryz.func23,Tryz.ntmps23;go_wp2_with fail;rw [<-hW1];clear hW1;refine HA.out.mono ?_;rintro e w2 ⟨rfl,hb⟩;have K2:=K1.below hb;clear hb;go_wp2_with fail;refine (HB.out w2 K2.out.1).mono ?_;rintro e w3 ⟨rfl,hb⟩;have K3:=K2.below hb;clear hb;go_wp2_with fail;refine (HM.out w3 K3.out.1).mono ?_;rintro e w4 ⟨rfl,hb⟩;have K4:=K3.below hb;clear hb
 go_wp2_with ((with_reducible refine sR_ rfl 44 _ _ rfl (w.heap.size) #[.string t1,.string t2] K4.out.2 2 ?_))
 exact qR (v:=.tuple #[.agg #[.string t1,.string t2],.int .i64 0]) (rB_ rfl w.heap.size (qT _ _ _ _ _ _ K4.out.2) Tryz.underlying44 2) rfl ⟨rfl,qS K4.out.1 qN _⟩
def SaysT (w:World) (P:Prop) (e:Ending) (w':World):Prop:=∃b:Bool,e=.returned (.bool b)/\(b=true↔P)/\Below w.heap.size w w'
theorem SaysT.yes {w w':World} {P:Prop} (h:P) (hb:Below w.heap.size w w'):SaysT w P (.returned (.bool true)) w':=⟨true,rfl,⟨fun _=>h,fun _=>rfl⟩,hb⟩
theorem SaysT.no {w w':World} {P:Prop} (h:¬P) (hb:Below w.heap.size w w'):SaysT w P (.returned (.bool false)) w':=⟨false,rfl,⟨fun e=>(by cases e),fun k=>absurd k h⟩,hb⟩
theorem qiD (c:UInt8):(c.toNat<45/\qdz c=false)\/(c.toNat=45/\qdz c=true)\/((45<c.toNat/\c.toNat<48)/\qdz c=false)\/((48<=c.toNat/\c.toNat<=57)/\qdz c=true)\/((57<c.toNat/\c.toNat<65)/\qdz c=false) \/
  ((65<=c.toNat/\c.toNat<=90)/\qdz c=true)\/((90<c.toNat/\c.toNat<95)/\qdz c=false)\/(c.toNat=95/\qdz c=true)\/(c.toNat=96/\qdz c=false)\/((97<=c.toNat/\c.toNat<=122)/\qdz c=true)\/(122<c.toNat/\qdz c=false):=by
 have key:qdz c=decide ((65<=c.toNat/\c.toNat<=90)\/(97<=c.toNat/\c.toNat<=122)\/(48<=c.toNat/\c.toNat<=57)\/c.toNat=45\/c.toNat=95):=by
  unfold qdz;rw [Bool.eq_iff_iff];simp only [Bool.or_eq_true,decide_eq_true_eq];omega
 rw [key];simp only [decide_eq_true_eq,decide_eq_false_iff_not];omega
theorem qmq (s:ByteArray) (w:World) (hs:s.size<=4611686018427387904) :
    Calls Tryz.prog 195 #[.string s] w fun e w'=>SaysT w (qjI s) e w':=by
  by_cases h1:1<=s.size
  case neg =>
    have hi:(s.size:Int)<1:=by omega
    go_enter Tryz.func195,Tryz.ntmps195;go_wp2;go_ret;exact .no (fun h=>h1 h.1) qB
  have h1i:¬(s.size:Int)<1:=by omega
  by_cases h2:s.size<=12
  case neg =>
    have hi:(12:Int)<s.size:=by omega
    go_enter Tryz.func195,Tryz.ntmps195;go_wp2;go_ret;exact .no (fun h=>h2 h.2.1) qB
  have h2i:¬(12:Int)<s.size:=by omega
  go_enter Tryz.func195,Tryz.ntmps195;go_wp2_with fail
  go_loop [16] (fun x16=>∃k:Nat,k<=s.size/\x16=.int .i64 k/\Hid (∀j (h:j<s.size),j<k->qdz s[j]=true)) (fun x16=>s.size-(intOf x16).toNat)
  case atStart=>exact⟨0,qam _,rfl,qH (fun j _ h=>absurd h (by omega))⟩
  case round =>
    obtain⟨k,hk,rfl,hJ⟩:=hrel
    by_cases hlt:k<s.size
    · have hki:(k:Int)<s.size:=by omega
      have hcl:=qiD s[k];have hlt8:s[k].toNat<256:=s[k].toNat_lt;rcases hcl with ⟨h,hc⟩ | ⟨h,hc⟩ | ⟨h,hc⟩ | ⟨h,hc⟩ | ⟨h,hc⟩ | ⟨h,hc⟩ | ⟨h,hc⟩ | ⟨h,hc⟩ | ⟨h,hc⟩ | ⟨h,hc⟩ | ⟨h,hc⟩
      all_goals
        have HC:=qH hc;clear hc;obtain⟨q1,hq1⟩:∃q,((s[k].toNat:Int) != 45)=q:=⟨_,rfl⟩;obtain⟨q2,hq2⟩:∃q,((s[k].toNat:Int) != 95)=q:=⟨_,rfl⟩;obtain rfl:q1=decide ((s[k].toNat:Int)≠45):=by rw [<-hq1,Bool.eq_iff_iff,bne_iff_ne,decide_eq_true_eq]
        obtain rfl:q2=decide ((s[k].toNat:Int)≠95):=by rw [<-hq2,Bool.eq_iff_iff,bne_iff_ne,decide_eq_true_eq]
        first | rw [qV (show ((s[k].toNat:Int)≠45) by omega)] at hq1 | rw [qU (show ¬((s[k].toNat:Int)≠45) by omega)] at hq1
        first | rw [qV (show ((s[k].toNat:Int)≠95) by omega)] at hq2 | rw [qU (show ¬((s[k].toNat:Int)≠95) by omega)] at hq2
        go_wp2_with fail
        all_goals first
          | (exfalso;omega)
          | (go_ret
             exact .no (fun hn=>by have:=hn.2.2 k hlt;rw [HC.out] at this;cases this) qB)
          | (have hct:qdz s[k]=true:=HC.out
             go_round
             case rel=>exact⟨k+1,hlt,by go_num,qH (fun j hj hjk=>by
               rcases (show j<k\/j=k by omega) with h | h
               · exact hJ.out j hj h
               · subst h;exact hct)⟩
             case measure=>simp [intOf];omega)
          | (exfalso;omega)
          | (exfalso;rename_i hz;simp at hz;omega)
    · obtain rfl:k=s.size:=by omega
      go_wp2;go_ret;exact .yes ⟨h1,h2,fun j hj=>hJ.out j hj hj⟩ qB
theorem qe8 (w:World) :
  Calls Tryz.prog 196 #[.int .i64 0] w fun e w'=>e=.returned (.tuple #[.int .i64 0,.int .i64 10000])/\w=w':=by
 go_enter Tryz.func196,Tryz.ntmps196;go_wp2_with fail
 go_ret2
 exact⟨rfl,rfl⟩
theorem qdq (i:Int) (h:i≠0) (w:World) :
  Calls Tryz.prog 196 #[.int .i64 i] w fun e w'=>e=.returned (.tuple #[.int .i64 (-12800),.int .i64 12700])/\w=w':=by
 have h0:(i == 0)=false:=by simpa using h
 go_enter Tryz.func196,Tryz.ntmps196;go_wp2_with fail
 go_ret2
 exact⟨rfl,rfl⟩
def PtAt (W:World) (v:Value) (p:Pt):Prop:=∃(ra:Option Addr) (rb ro rc:Nat),v=.agg #[.string p.name,.slice ra p.dev.length rc,.int .i64 p.l0,.int .i64 p.l1,.int .i64 p.l2]/\NCells W ra rb ro p.dev
def qiw (k:Nat):Int:=if k=0 then 0 else -12800
def qgQ (k:Nat):Int:=if k=0 then 10000 else 12700
theorem qm0 (v:Value) (p:Pt) (w:World) (hv:PtAt w v p) (hs:p.name.size<=4611686018427387904) (hd:p.dev.length<=4611686018427387904) :
  Calls Tryz.prog 124 #[v] w fun e w'=>SaysT w (PtOk p) e w':=by
 obtain⟨ra,rb,ro,rc,rfl,hN⟩:=hv;obtain⟨nm,dev,l0,l1,l2⟩:=p;simp only [] at hs hd hN ⊢;obtain⟨n,hn⟩:=qX dev.length;rw [hn] at hd ⊢;obtain⟨W1,hW1,K1⟩:=nw1 w #[.string nm,.slice ra n rc,.int .i64 l0,.int .i64 l1,.int .i64 l2] 55;have HN:=qH (qA (hN.below K1.out.1) hn);have hnm:=qmq nm W1 hs;have HNm:=qH hnm;have c0:=qC W1 _ 0 _ _ _ K1.out.2;have c1:=qC W1 _ 1 _ _ _ K1.out.2;have hl:=(qG K1.out.2).1;clear hN hn hnm;go_enter Tryz.func124,Tryz.ntmps124;go_wp2_with fail;rw [<-hW1];clear hW1;refine HNm.out.mono ?_;rintro e w2 ⟨b,rfl,hbn,hb2⟩;have K2:=K1.below hb2;have HB2:=qH hb2;clear c0 c1 hb2;have c1:=qC w2 _ 1 _ _ _ K2.out.2;cases b with
 | false =>
  have HX:=qH (show ¬qjI nm from fun h=>by have:=hbn.2 h;cases this);clear hbn;go_wp2;go_ret;exact .no (fun h=>HX.out h.name) K2.out.1
 | true =>
  have HX:=qH (hbn.1 rfl);clear hbn
  by_cases h1:1<=n
  case neg =>
   have hi:(n:Int)<1:=by omega
   go_wp2;go_ret;exact .no (fun h=>h1 (by have:=h.n1;have:=HN.out.2;simp only [] at *;omega)) K2.out.1
  have h1i:¬(n:Int)<1:=by omega
  by_cases h2:n<=4
  case neg =>
   have hi:(4:Int)<n:=by omega
   go_wp2;go_ret;exact .no (fun h=>h2 (by have:=h.n4;have:=HN.out.2;simp only [] at *;omega)) K2.out.1
  have h2i:¬(4:Int)<n:=by omega
  have har:=HN.out.1.addr (by have:=HN.out.2;omega);subst har;go_wp2_with fail
  go_loop [28] (fun x28=>∃k:Nat,k<=n/\x28=.int .i64 k/\Hid (∀j,j<k->0<=dev.getD j 0/\dev.getD j 0<=10000)) (fun x28=>n-(intOf x28).toNat)
  case atStart=>exact⟨0,qam _,rfl,qH (fun j h=>absurd h (by omega))⟩
  case round =>
   obtain⟨k,hk,rfl,hJ⟩:=hrel
   by_cases hlt:k<n
   ·have hki:(k:Int)<n:=by omega
    have hN2:=HN.out.1.below HB2.out;have d0:=hN2.cell k (by have:=HN.out.2;omega);obtain⟨x,hx⟩:=qX (dev.getD k 0);rw [hx] at d0;have HXx:=qH hx;clear hx hN2
    by_cases e1:x<0
    ·go_wp2;go_ret;exact .no (fun h=>by have:=h.vals k (by have:=HN.out.2;simp only [];omega);have:=HXx.out;simp only [] at *;omega) K2.out.1
    ·by_cases e2:10000<x
     ·go_wp2;go_ret;exact .no (fun h=>by have:=h.vals k (by have:=HN.out.2;simp only [];omega);have:=HXx.out;simp only [] at *;omega) K2.out.1
     ·go_wp2_with fail
      go_round
      case rel=>exact⟨k+1,hlt,by go_num,qH (fun j hj=>by
       rcases (show j<k\/j=k by omega) with h | h
       ·exact hJ.out j h
       ·subst h;rw [HXx.out];omega)⟩
      case measure=>simp [intOf];omega
   ·obtain rfl:k=n:=by omega
    have c2:=qC w2 _ 2 _ _ _ K2.out.2;have c3:=qC w2 _ 3 _ _ _ K2.out.2;have c4:=qC w2 _ 4 _ _ _ K2.out.2;have HV:=qH (show qcO dev from fun j hj=>hJ.out j (by have:=HN.out.2;omega));clear hJ;have hx0:∀W,(Instr.index 53 (.agg #[.int .i64 l0,.int .i64 l1,.int .i64 l2]) (.int .i64 0)).run Tryz.prog W=.ok (.int .i64 l0) W:=fun _=>by kernel_rfl
    have hx1:∀W,(Instr.index 53 (.agg #[.int .i64 l0,.int .i64 l1,.int .i64 l2]) (.int .i64 1)).run Tryz.prog W=.ok (.int .i64 l1) W:=fun _=>by kernel_rfl
    have hx2:∀W,(Instr.index 53 (.agg #[.int .i64 l0,.int .i64 l1,.int .i64 l2]) (.int .i64 2)).run Tryz.prog W=.ok (.int .i64 l2) W:=fun _=>by kernel_rfl
    have HK2:=qH K2.out.1;clear K2 K1;go_wp2_with fail;clear c1 c2 c3 c4
    go_loop [41] (fun x41=>∃k:Nat,k<=3/\x41=.int .i64 k/\Hid (∀j,j<k->qiw j<=(Pt.lab ⟨nm,dev,l0,l1,l2⟩ j)/\(Pt.lab ⟨nm,dev,l0,l1,l2⟩ j)<=qgQ j)) (fun x41=>3-(intOf x41).toNat)
    case atStart=>exact⟨0,qam _,rfl,qH (fun j h=>absurd h (by omega))⟩
    case round =>
     obtain⟨i,hi3,rfl,hJ⟩:=hrel;have bad:Hid (∀j,j<3->¬(qiw j<=(Pt.lab ⟨nm,dev,l0,l1,l2⟩ j)/\(Pt.lab ⟨nm,dev,l0,l1,l2⟩ j)<=qgQ j)->¬PtOk ⟨nm,dev,l0,l1,l2⟩):=qH (fun j hj hn h=>hn (by
      rcases (show j=0\/j=1\/j=2 by omega) with rfl | rfl | rfl
      ·exact h.l0
      ·exact h.l1
      ·exact h.l2))
     rcases (show i=0\/i=1\/i=2\/i=3 by omega) with rfl | rfl | rfl | rfl
     ·by_cases e1:l0<0
      ·go_wp2_with ((go_at_call 196;refine (qe8 _).mono ?_;rintro e w9 ⟨rfl,rfl⟩))
       go_ret;exact .no (bad.out 0 (by decide) (fun h=>by have:=h.1;show False;exact absurd e1 (by simpa [qiw,Pt.lab] using this))) HK2.out
      ·by_cases e2:10000<l0
       ·go_wp2_with ((go_at_call 196;refine (qe8 _).mono ?_;rintro e w9 ⟨rfl,rfl⟩))
        go_ret;exact .no (bad.out 0 (by decide) (fun h=>by have:=h.2;exact absurd e2 (by simpa [qgQ,Pt.lab] using this))) HK2.out
       ·go_wp2_with ((go_at_call 196;refine (qe8 _).mono ?_;rintro e w9 ⟨rfl,rfl⟩))
        go_round
        case rel=>exact⟨1,by decide,rfl,qH (fun j hj=>by
         obtain rfl:j=0:=by omega
         exact⟨e1,e2⟩)⟩
        case measure=>simp [intOf]
     ·by_cases e1:l1 < -12800
      ·go_wp2_with ((go_at_call 196;refine (qdq _ (by decide) _).mono ?_;rintro e w9 ⟨rfl,rfl⟩))
       go_ret;exact .no (bad.out 1 (by decide) (fun h=>by have:=h.1;exact absurd e1 (by simpa [qiw,Pt.lab] using this))) HK2.out
      ·by_cases e2:12700<l1
       ·go_wp2_with ((go_at_call 196;refine (qdq _ (by decide) _).mono ?_;rintro e w9 ⟨rfl,rfl⟩))
        go_ret;exact .no (bad.out 1 (by decide) (fun h=>by have:=h.2;exact absurd e2 (by simpa [qgQ,Pt.lab] using this))) HK2.out
       ·go_wp2_with ((go_at_call 196;refine (qdq _ (by decide) _).mono ?_;rintro e w9 ⟨rfl,rfl⟩))
        go_round
        case rel=>exact⟨2,by decide,rfl,qH (fun j hj=>by
         rcases (show j<1\/j=1 by omega) with h | rfl
         ·exact hJ.out j h
         ·exact⟨e1,e2⟩)⟩
        case measure=>simp [intOf]
     ·by_cases e1:l2 < -12800
      ·go_wp2_with ((go_at_call 196;refine (qdq _ (by decide) _).mono ?_;rintro e w9 ⟨rfl,rfl⟩))
       go_ret;exact .no (bad.out 2 (by decide) (fun h=>by have:=h.1;exact absurd e1 (by simpa [qiw,Pt.lab] using this))) HK2.out
      ·by_cases e2:12700<l2
       ·go_wp2_with ((go_at_call 196;refine (qdq _ (by decide) _).mono ?_;rintro e w9 ⟨rfl,rfl⟩))
        go_ret;exact .no (bad.out 2 (by decide) (fun h=>by have:=h.2;exact absurd e2 (by simpa [qgQ,Pt.lab] using this))) HK2.out
       ·go_wp2_with ((go_at_call 196;refine (qdq _ (by decide) _).mono ?_;rintro e w9 ⟨rfl,rfl⟩))
        go_round
        case rel=>exact⟨3,by decide,rfl,qH (fun j hj=>by
         rcases (show j<2\/j=2 by omega) with h | rfl
         ·exact hJ.out j h
         ·exact⟨e1,e2⟩)⟩
        case measure=>simp [intOf]
     ·go_wp2;go_ret;exact .yes ⟨HX.out,by have:=HN.out.2;simp only [];omega,by have:=HN.out.2;simp only [];omega,HV.out,hJ.out 0 (by decide),hJ.out 1 (by decide),hJ.out 2 (by decide)⟩ HK2.out
theorem qep (w:World):Calls Tryz.prog 52 #[.int .i64 0] w fun e w'=>e=.returned (.tuple #[])/\w=w':=by
 go_enter Tryz.func52,Tryz.ntmps52;go_wp2_with fail
 go_end0
 exact⟨rfl,rfl⟩
theorem qcg (c:Int) (h:c≠0) (w:World):Calls Tryz.prog 52 #[.int .i64 c] w fun e w'=>e=thrown c/\w=w':=by
 have hc:(c != 0)=true:=by rw [bne_iff_ne];exact h
 go_enter Tryz.func52,Tryz.ntmps52;go_wp2_with fail;exact⟨rfl,rfl,rfl⟩
theorem qcI (x y:ByteArray) (w:World):Calls Tryz.prog 60 #[.agg #[.string x,.string y],.int .i64 0] w fun e w'=>e=.returned (.agg #[.string x,.string y])/\Below w.heap.size w w':=by
 obtain⟨W1,hW1,K1⟩:=nw2 w #[.string x,.string y] 44 #[.string ⟨#[]⟩,.string ⟨#[]⟩] 44;have c0:=qC W1 _ 0 _ _ _ K1.out.2.1;have c1:=qC W1 _ 1 _ _ _ K1.out.2.1;go_enter Tryz.func60,Tryz.ntmps60;go_wp2_with fail;rw [<-hW1];clear hW1;refine (qep _).mono ?_;rintro e w2 ⟨rfl,rfl⟩
 go_wp2_with ((with_reducible refine sR_ rfl 44 _ _ rfl (w.heap.size+1) #[.string x,.string y] K1.out.2.2 2 ?_))
 exact qR (v:=.agg #[.string x,.string y]) (rA_ rfl (w.heap.size+1) (qT _ _ _ _ _ _ K1.out.2.2) Tryz.underlying44 2) rfl ⟨rfl,qS K1.out.1 (by omega) _⟩
theorem qms (x y:ByteArray) (c:Int) (h:c≠0) (w:World):Calls Tryz.prog 60 #[.agg #[.string x,.string y],.int .i64 c] w fun e w'=>e=thrown c/\Below w.heap.size w w':=by
 obtain⟨W1,hW1,K1⟩:=nw2 w #[.string x,.string y] 44 #[.string ⟨#[]⟩,.string ⟨#[]⟩] 44;go_enter Tryz.func60,Tryz.ntmps60;go_wp2_with fail;rw [<-hW1];clear hW1;refine (qcg c h _).mono ?_;rintro e w2 ⟨rfl,rfl⟩;exact⟨rfl,rfl,K1.out.1⟩
theorem qj3 (ao:Option Addr) (n c:Nat) (w:World):Calls Tryz.prog 128 #[.slice ao n c,.int .i64 0] w fun e w'=>e=.returned (.slice ao n c)/\w=w':=by
 go_enter Tryz.func128,Tryz.ntmps128;go_wp2_with fail;refine (qep _).mono ?_;rintro e w2 ⟨rfl,rfl⟩;go_wp2;go_ret;exact⟨rfl,rfl⟩
theorem qgV (ao:Option Addr) (n c:Nat) (d:Int) (h:d≠0) (w:World):Calls Tryz.prog 128 #[.slice ao n c,.int .i64 d] w fun e w'=>e=thrown d/\w=w':=by
 go_enter Tryz.func128,Tryz.ntmps128;go_wp2_with fail;refine (qcg d h _).mono ?_;rintro e w2 ⟨rfl,rfl⟩;exact⟨rfl,rfl,rfl⟩
theorem qem (n:Int) (w:World):Calls Tryz.prog 140 #[.int .i64 n,.int .i64 0] w fun e w'=>e=.returned (.int .i64 n)/\w=w':=by
 go_enter Tryz.func140,Tryz.ntmps140;go_wp2_with fail;refine (qep _).mono ?_;rintro e w2 ⟨rfl,rfl⟩;go_wp2;go_ret;exact⟨rfl,rfl⟩
theorem qgU (n d:Int) (h:d≠0) (w:World):Calls Tryz.prog 140 #[.int .i64 n,.int .i64 d] w fun e w'=>e=thrown d/\w=w':=by
 go_enter Tryz.func140,Tryz.ntmps140;go_wp2_with fail;refine (qcg d h _).mono ?_;rintro e w2 ⟨rfl,rfl⟩;exact⟨rfl,rfl,rfl⟩
theorem qht {kind:Int} {k:Nat} (h:qcC kind k):kind=1/\k=1\/kind=2/\k=2\/kind=3/\k=3:=by
 obtain⟨rfl,h1,h2⟩:=h;omega
theorem qgP (kind:Int) (w:World):Calls Tryz.prog 54 #[.int .i64 kind] w fun e w'=>e=.returned (.bool (decide (1<=kind/\kind<=3)))/\w=w':=by
 by_cases h1:1<=kind
 ·by_cases h2:kind<=3
  ·rw [qV (show 1<=kind/\kind<=3 from ⟨h1,h2⟩)];go_enter Tryz.func54,Tryz.ntmps54;go_wp2;go_ret;exact⟨rfl,rfl⟩
  ·rw [qU (show ¬(1<=kind/\kind<=3) from fun h=>h2 h.2)];go_enter Tryz.func54,Tryz.ntmps54;go_wp2;go_ret;exact⟨rfl,rfl⟩
 ·rw [qU (show ¬(1<=kind/\kind<=3) from fun h=>h1 h.1)];go_enter Tryz.func54,Tryz.ntmps54;go_wp2;go_ret;exact⟨rfl,rfl⟩
theorem qgc (ao:Option Addr) (b off n c:Nat) (d:List Int) (m:Int) (w:World) (hn:d.length=n) (hl:n<=4611686018427387904) (hN:NCells w ao b off d) :
  Calls Tryz.prog 77 #[.slice ao n c,.int .i64 m] w fun e w'=>∃r:Int,e=.returned (.int .i64 r)/\(r=0/\((n:Int)=m/\qcO d)\/r=2/\¬((n:Int)=m/\qcO d))/\w=w':=by
 by_cases hm:(n:Int)=m
 case neg =>
  have hne:((n:Int) != m)=true:=by rw [bne_iff_ne];exact hm
  clear hN;go_enter Tryz.func77,Tryz.ntmps77;go_wp2;go_ret;exact⟨2,rfl,qah ⟨rfl,fun h=>hm h.1⟩,rfl⟩
 subst hm;have HN:=qH (qA hN hn);clear hN hn;go_enter Tryz.func77,Tryz.ntmps77;go_wp2_with fail
 go_loop [13] (fun x13=>∃k:Nat,k<=n/\x13=.int .i64 k/\Hid (∀j,j<k->0<=d.getD j 0/\d.getD j 0<=10000)) (fun x13=>n-(intOf x13).toNat)
 case atStart=>exact⟨0,qam _,rfl,qH (fun j h=>absurd h (by omega))⟩
 case round =>
  obtain⟨k,hk,rfl,hJ⟩:=hrel
  by_cases hlt:k<n
  ·have hki:(k:Int)<n:=by omega
   have har:=HN.out.1.addr (by have:=HN.out.2;omega);subst har;have d0:=HN.out.1.cell k (by have:=HN.out.2;omega);obtain⟨x,hx⟩:=qX (d.getD k 0);rw [hx] at d0;have HX:=qH hx;clear hx
   by_cases e1:x<0
   ·go_wp2;go_ret;exact⟨2,rfl,qah ⟨rfl,fun h=>by have:=h k (by have:=HN.out.2;omega);have:=HX.out;omega⟩,rfl⟩
   ·by_cases e2:10000<x
    ·go_wp2;go_ret;exact⟨2,rfl,qah ⟨rfl,fun h=>by have:=h k (by have:=HN.out.2;omega);have:=HX.out;omega⟩,rfl⟩
    ·go_wp2_with fail
     go_round
     case rel=>exact⟨k+1,hlt,by go_num,qH (fun j hj=>by
      rcases (show j<k\/j=k by omega) with h | h
      ·exact hJ.out j h
      ·subst h;rw [HX.out];omega)⟩
     case measure=>simp [intOf];omega
  ·obtain rfl:k=n:=by omega
   go_wp2;go_ret;exact⟨0,rfl,qan ⟨rfl,fun j hj=>hJ.out j (by have:=HN.out.2;omega)⟩,rfl⟩
def lin (d:List Int):List Rat:=1 :: (List.range d.length).map (dq d)
def sqs (d:List Int) (k:Nat):List Rat:=(List.range k).map fun j=>dq d j*dq d j
theorem qmb (d:List Int):(lin d).length=d.length+1:=by simp [lin]
theorem sqs_succ (d:List Int) (k:Nat):sqs d (k+1)=sqs d k++[dq d k*dq d k]:=by unfold sqs;rw [List.range_succ,qa5];rfl
theorem qjB (d:List Int):termL 2 d=lin d++sqs d d.length:=rfl
theorem qh8 (d:List Int):termL 3 d=prods d d.length:=rfl
theorem qf7 (kind:Nat) (d:List Int):told (many kind d.length) (termQ kind d)=(termL kind d).map ftxt:=by
 rw [<-qeF];refine List.ext_getElem (by rw [qbW,qaw]) fun i h1 h2=>?_
 rw [qbW] at h1;have e1:=qdr (x:=termQ kind d) h1;rw [qaa,qae (by rw [qbW];exact h1)] at e1;rw [List.getElem_map];refine Eq.trans e1 ?_;unfold termQ;rw [qaa,qae h1];rfl
theorem lin_told (d:List Int):(lin d).map ftxt=ftxt 1 :: told d.length (dq d):=by unfold lin told;rw [qbt,List.map_map];rfl
theorem FCells.part {W:World} {ao:Option Addr} {b off:Nat} {l l2:List FT} (h:FCells W ao b off (l++l2)):FCells W ao b off l :=
 ⟨fun h0=>h.addr (by rw [qaf];omega),fun k hk=>by
  have:=h.cell k (by rw [qaf];omega);rw [qaa,qaA hk,<-qaa] at this;exact this⟩
theorem FCells.appended {w w':World} {B:Nat} {v v':Value} {n' g:Nat} {l l2:List FT} {L:List FT} (hL:FCells w (some ⟨g,0,none⟩) g 0 L) (h0:0<L.length) (hn:(l++l2).length=n') (hnew:Rws w' B 44 2 v' n' (fflat (l++l2))) (hpre:∃l3,l=L++l3)
  (h:v'.ownBlock=v.ownBlock/\w.grownBy w' v.ownBlock\/v'.ownBlock=some w.heap.size/\w.grownBy w' none):FCells w' (some ⟨g,0,none⟩) g 0 L:=by
 rcases h with ⟨e,hk⟩ | ⟨_,hk⟩
 ·by_cases hg:v.ownBlock=some g
  ·obtain⟨ao,g',cap,rfl,hF,_⟩:=qd2 hnew hn;have ha:=hF.addr (by rw [qaf];obtain⟨l3,rfl⟩:=hpre;rw [qaf];omega);subst ha;have:g'=g:=by
    have h1:some g'=v.ownBlock:=e;rw [hg] at h1;exact qai h1
   subst this;obtain⟨l3,rfl⟩:=hpre;rw [qay] at hF;exact hF.part
  ·exact⟨hL.addr,fun k hk2=>by
    obtain⟨c1,c2⟩:=hL.cell k hk2;exact⟨hk.cell c1 (fun e=>hg e.symm),hk.cell c2 (fun e=>hg e.symm)⟩⟩
 ·exact hL.below ⟨hk.os,hk.tape,hk.output,hk.size,fun i hi=>hk.block i hi (fun e=>by cases e)⟩
theorem qcU {w w':World} {v v':Value} {g:Nat} {o:Obj} (hg:w.heap[g]? = some o) (hne:v.ownBlock≠some g) (h:v'.ownBlock=v.ownBlock/\w.grownBy w' v.ownBlock\/v'.ownBlock=some w.heap.size/\w.grownBy w' none):w'.heap[g]? = some o/\v'.ownBlock≠some g:=by
 have hlt:=(qG hg).1;rcases h with ⟨e,hk⟩ | ⟨e,hk⟩
 ·exact⟨(hk.block g hlt (fun e=>hne e.symm)).trans hg,by rw [e];exact hne⟩
 ·exact⟨(hk.block g hlt (fun e=>by cases e)).trans hg,by rw [e];intro e2;have:=qai e2;omega⟩
theorem qfv {w w' a:World} {B:Nat} {v v':Value} (hb:Below B a w) (hv:∀k,v.ownBlock=some k->B<=k) (hB:B<=w.heap.size) (h:v'.ownBlock=v.ownBlock/\w.grownBy w' v.ownBlock\/v'.ownBlock=some w.heap.size/\w.grownBy w' none):Below B a w':=by
 rcases h with ⟨_,hk⟩ | ⟨_,hk⟩
 ·exact hb.trans ⟨hk.os,hk.tape,hk.output,hk.size,fun i hi=>hk.block i (by omega) (fun e=>by have:=hv i e.symm;omega)⟩
 ·exact hb.trans ⟨hk.os,hk.tape,hk.output,hk.size,fun i hi=>hk.block i (by omega) (fun e=>by cases e)⟩
theorem qfw {W:World} {B:Nat} {y:Value} {n g:Nat} {xs:List Value} {cs:Array Value} {t:TypeId} (h:Rws W B 44 2 y n xs) (hg:W.heap[g]? = some (.cells cs t (0,0))) (e:y.ownBlock=some g):44=t:=by
 rcases h.2 with ⟨rfl,_⟩ | ⟨g',cap,cur,rfl,_,h3,_⟩
 ·cases e
 ·have:g'=g:=qai e;subst this;have:=h3.symm.trans hg;simp at this;exact this.2
theorem qmQ {W:World} {g g':Nat} {cs cs':Array Value} {t t':TypeId} (h:W.heap[g]? = some (.cells cs t (0,0))) (h':W.heap[g']? = some (.cells cs' t' (0,0))) (e:g=g'):t=t':=by
 subst e;have:=h.symm.trans h';simp at this;exact this.2
theorem qk4 (p:Nat) (y:Value) (w:World) (h:w.heap[p]? = some (.cells #[y] 35 (0,0))) (hy:∃a n c,y=.slice a n c) :
  Calls Tryz.prog 125 #[.pointer (some ⟨p,0,none⟩)] w fun e w'=>e=.returned y/\w=w':=by
 obtain⟨a,n,c,rfl⟩:=hy;have c0:=qC w _ 0 _ _ _ h;go_enter Tryz.func125,Tryz.ntmps125;go_wp2;go_ret;exact⟨rfl,rfl⟩
def T2St (w:World) (B p5 p9 g5 n c5:Nat) (d:List Int) (k:Nat) (y:Value) (W:World):Prop :=
 Below B w W/\W.heap[p5]? = some (.cells #[.slice (some ⟨g5,0,none⟩) n c5] 35 (0,0))/\W.heap[p9]? = some (.cells #[y] 35 (0,0))/\FRow W g5 n (told n (dq d))/\Rws W B 44 2 y (n+1+k) (fflat ((lin d++sqs d k).map ftxt))/\y.ownBlock≠some g5
theorem T2St.below {w:World} {B p5 p9 g5 n c5:Nat} {d:List Int} {k:Nat} {y:Value} {W W':World} (h:T2St w B p5 p9 g5 n c5 d k y W) (hB:B<=W.heap.size) (hb:Below W.heap.size W W'):T2St w B p5 p9 g5 n c5 d k y W' :=
 ⟨h.1.trans (hb.mono hB),zkeep hb _ _ h.2.1,zkeep hb _ _ h.2.2.1,h.2.2.2.1.below hb,h.2.2.2.2.1.below hb,h.2.2.2.2.2⟩
theorem qk5 (B p5 p9 g5 n c5:Nat) (d:List Int) (y0:Value) (w:World) (hB:B<=w.heap.size) (hp9:B<=p9) (hp:p5≠p9) (hn:d.length=n) (hn4:n<=4) (hV:qcO d) (hTB:∀W,Below B w W->HasT W) (hI:T2St w B p5 p9 g5 n c5 d 0 y0 w) :
  Calls Tryz.prog 126 #[.pointer (some ⟨p5,0,none⟩),.pointer (some ⟨p9,0,none⟩)] w fun e w'=>∃y,e=.returned y/\Rws w' B 44 2 y (n+1+n) (fflat ((termL 2 d).map ftxt))/\Below B w w':=by
 have hsh:∀k,Short (dq d k):=fun k=>(dq_cd hV k).short (by decide) (by decide +kernel) (by decide +kernel)
 have hsq:∀k,Short (dq d k*dq d k):=fun k=>((dq_cd hV k).mul (dq_cd hV k) (by decide) (by decide)).short (by decide) (by decide +kernel) (by decide +kernel)
 have HS:=qH (qA hsh (qA hsq hn));have HI:=qH hI;have HTB:=qH hTB;have c50:=qC w _ 0 _ _ _ hI.2.1;clear hsh hsq hV hI hn hTB;go_enter Tryz.func126,Tryz.ntmps126;go_wp2_with fail;clear c50
 go_loopw [7] (fun x7 W=>∃(k:Nat) (y:Value),x7=.int .i64 k/\k<=n/\Hid (T2St w B p5 p9 g5 n c5 d k y W/\B<=W.heap.size)) (fun x7 _=>n-(intOf x7).toNat)
 case atStart=>exact⟨0,y0,rfl,qam _,qH ⟨HI.out,hB⟩⟩
 case round =>
  obtain⟨k,y,rfl,hk,K⟩:=hrel
  by_cases hkn:k<n
  ·have hki:(k:Int)<n:=by omega
   have hfc:=K.out.1.2.2.2.1.cells (qbW _ _);obtain⟨d0,d1⟩:=hfc.cell k (by rw [qbW];exact hkn);rw [qdr hkn,qaO] at d0 d1;obtain⟨x1,x2,hx⟩:=qb6 (dq d k);rw [hx] at d0 d1;have HX:=qH hx;clear hx hfc;go_wp2_with fail;obtain⟨W1,hW1⟩:=qY (wr.alloc (.cells #[.string x1,.string x2] 44));rw [<-hW1];have hb1:Below wr.heap.size wr W1:=hW1▸qbS qB qN;have hr1:W1.heap[wr.heap.size]? = some (.cells #[.string x1,.string x2] 44 (0,0)):=by rw [hW1];exact qM _ _ _ rfl
   have K1:=qH (qA (K.out.1.below K.out.2 hb1) (qA (qaj K.out.2 hb1.size) hr1));clear hW1 hb1 hr1 d0 d1;refine wp_region_held_drew (S:=fun _=>True) (by kernel_rfl) trivial (fun hS0=>?_);refine gr [(0,11),(1,12),(2,13),(3,14),(4,15),(5,16),(6,17),(7,18)] [(3,[1,2]),(4,[3]),(5,[3]),(6,[4,5]),(7,[6])] [] [0,1,2,3,4,5,6,7] [] 8 10
    (fl2 [(0,fun z _=>z=y),(1,fun z _=>z=.agg #[.string x1,.string x2]),(2,fun z _=>z=.agg #[.string x1,.string x2]),(3,fun z _=>z=.tuple #[.agg #[.string (ftxt (dq d k*dq d k)).1,.string (ftxt (dq d k*dq d k)).2],.int .i64 0]),(4,fun z _=>z=.agg #[.string (ftxt (dq d k*dq d k)).1,.string (ftxt (dq d k*dq d k)).2]),(5,fun z _=>z=.int .i64 0),(6,fun z _=>z=.agg #[.string (ftxt (dq d k*dq d k)).1,.string (ftxt (dq d k*dq d k)).2]),
     (7,fun z W=>∃g:Nat,W.heap[g]? = some (.cells #[.string (ftxt (dq d k*dq d k)).1,.string (ftxt (dq d k*dq d k)).2] 44 (0,0))/\z=.slice (some ⟨g,0,none⟩) 1 1)]) _ 2
    (hS:=fun _ _=>trivial) (hstep:=⟨⟨_,rfl,fun v w3 hb hF Kk hK=>?_⟩,⟨_,rfl,fun v w3 hb hF Kk hK=>?_⟩,⟨_,rfl,fun v w3 hb hF Kk hK=>?_⟩,⟨_,rfl,fun v w3 hb hF Kk hK=>?_⟩,⟨_,rfl,fun v w3 hb hF Kk hK=>?_⟩,⟨_,rfl,fun v w3 hb hF Kk hK=>?_⟩,⟨_,rfl,fun v w3 hb hF Kk hK=>?_⟩,⟨_,rfl,fun v w3 hb hF Kk hK=>?_⟩,trivial⟩) (hend:=fun v w3 hb hF _ fu=>?_)
   ·have h0:=qC _ _ 0 _ _ _ (K1.out.1.below K1.out.2.1 (qb1 hb)).2.2.1;exact gV hK rfl
   ·have q0:=qC _ _ 0 _ _ _ (zkeep (qb1 hb) _ _ K1.out.2.2);have q1:=qC _ _ 1 _ _ _ (zkeep (qb1 hb) _ _ K1.out.2.2);exact gV hK rfl
   ·have q0:=qC _ _ 0 _ _ _ (zkeep (qb1 hb) _ _ K1.out.2.2);have q1:=qC _ _ 1 _ _ _ (zkeep (qb1 hb) _ _ K1.out.2.2);exact gV hK rfl
   ·have e1:v 1=_:=hF.1;have e2:v 2=_:=hF.2.1;have hm:=mulq (HS.out.1 k) (HS.out.1 k) (HS.out.2.1 k) w3 (HTB.out w3 (K1.out.1.below K1.out.2.1 (qb1 hb)).1);rw [HX.out] at hm;exact gC hK hm (h:=fun e w4 ⟨e1,h2⟩=>⟨_,e1,rfl,h2⟩)
   ·have e1:v 3=_:=hF.1;exact gV hK rfl
   ·have e1:v 3=_:=hF.1;exact gV hK rfl
   ·have e1:v 4=_:=hF.1;have e2:v 5=_:=hF.2.1;exact gC hK (qcI _ _ w3) (h:=fun e w4 ⟨e1,h2⟩=>⟨_,e1,rfl,h2⟩)
   ·have e1:v 6=_:=hF.1;exact gW hK (h:=⟨⟨w3.heap.size,qM _ _ _ rfl,rfl⟩,qbS qB qN⟩)
   have e0:v 0=_:=hF 0 (by decide) (by decide);obtain⟨g7,hg7,e7⟩:∃g:Nat,_:=hF 7 (by decide) (by decide);have K3:=K1.out.1.below K1.out.2.1 (qb1 hb);have hB3:B<=w3.heap.size:=qaj K1.out.2.1 (qb1 hb).size;obtain⟨y',w4,hr,hy',hway⟩:=qfD (m:=1) (c:=1) 35 K3.2.2.2.2.1 hB3 (qlF hg7) rfl (by decide) (by omega);obtain⟨h5,h5n⟩:=qcU K3.2.1 (by rintro e;exact absurd (qfw K3.2.2.2.2.1 K3.2.1 e) (by decide)) hway;obtain⟨h9,h9n⟩:=qcU K3.2.2.1 (by rintro e;exact absurd (qfw K3.2.2.2.2.1 K3.2.2.1 e) (by decide)) hway;obtain⟨hg5,hg5n⟩:=qcU K3.2.2.2.1.1 K3.2.2.2.2.2 hway;have hold:=qfv K3.1 (fun k hk=>(K3.2.2.2.2.1.lt k hk).1) hB3 hway;have hsz4:w3.heap.size<=w4.heap.size:=by rcases hway with ⟨_,h⟩ | ⟨_,h⟩ <;> exact h.size
   rw [<-List.map_singleton (f:=ftxt),<-qa5,qay,<-sqs_succ] at hy';obtain⟨ay,cy,rfl⟩:=hy'.shape;rw [e0,e7];have c94:=qC w4 _ 0 _ _ _ h9;have f94:=qF w4 _ 0 _ _ h9;refine hE 8 (he:=by exact qf5 rfl rfl rfl rfl hr) (h:=⟨trivial,hN (h:=?_)⟩);refine hSg 9 (h:=⟨trivial,?_⟩);refine wpAnyH_done (by kernel_rfl) ?_ _;have K5:Hid (T2St w B p5 p9 g5 n c5 d (k+1) (.slice ay (n+1+k+1) cy) (w4.setCell ⟨p9,0,none⟩ (.slice ay (n+1+k+1) cy))/\B<=(w4.setCell ⟨p9,0,none⟩ (.slice ay (n+1+k+1) cy)).heap.size):=by
    refine qH ⟨⟨hold.setCell (by exact hp9) _,(qW _ _ _ _ hp).trans h5,heap_setCell_same _ _ 0 _ _ _ h9,⟨(qW _ _ _ _ (fun e=>absurd (qmQ hg5 h9 e) (by decide))).trans hg5,K3.2.2.2.1.2⟩,?_,hg5n⟩,by rw [qby];omega⟩;exact hy'.kept (frac.qbX w4 p9 0 _) (qah (fun e=>absurd (qfw hy' h9 e) (by decide)))
   clear hold hy' hr h5 h5n h9 h9n hg5 hg5n hway c94 f94 hg7 hF hb e0 e7 K3;go_wp2;go_roundw
   case rel=>exact⟨k+1,_,by go_num,hkn,K5⟩
   case measure=>simp [intOf];omega
  ·obtain rfl:k=n:=by omega
   have c90:=qC wr _ 0 _ _ _ K.out.1.2.2.1;go_wp2;go_ret;exact⟨y,rfl,by rw [qjB,HS.out.2.2];exact K.out.1.2.2.2.2.1,K.out.1.1⟩
def half (d:List Int) (k j:Nat):List Rat:=prods d k++((prods d k).take j).map fun p=>p*dq d k
theorem qlX (d:List Int) (k:Nat):half d k 0=prods d k:=by simp [half]
theorem qlW {d:List Int} {k j:Nat} (h:j<2 ^ k):half d k (j+1)=half d k j++[(prods d k).getD j 0*dq d k]:=by
 unfold half;have hl:j<(prods d k).length:=by rw [qeC];exact h
 rw [List.take_succ_eq_append_getElem hl,qa5,qay,qaa,qae hl]
 rfl
theorem half_all (d:List Int) (k:Nat):half d k (2 ^ k)=prods d (k+1):=by
 unfold half;rw [qak (by rw [qeC];exact qad _)];rfl
def T3St (w:World) (B p5 _p8 g5 n c5:Nat) (d:List Int) (L:List Rat) (m:Nat) (y:Value) (W:World):Prop :=
 Below B w W/\B<=W.heap.size/\W.heap[p5]? = some (.cells #[.slice (some ⟨g5,0,none⟩) n c5] 35 (0,0))/\FRow W g5 n (told n (dq d))/\Rws W B 44 2 y m (fflat (L.map ftxt))/\y.ownBlock≠some g5
theorem T3St.below {w:World} {B p5 p8 g5 n c5 m:Nat} {d:List Int} {L:List Rat} {y:Value} {W W':World} (h:T3St w B p5 p8 g5 n c5 d L m y W) (hb:Below W.heap.size W W'):T3St w B p5 p8 g5 n c5 d L m y W' :=
 ⟨h.1.trans (hb.mono h.2.1),qaj h.2.1 hb.size,zkeep hb _ _ h.2.2.1,h.2.2.2.1.below hb,h.2.2.2.2.1.below hb,h.2.2.2.2.2⟩
theorem qk6 (B p5 p8 g5 n c5:Nat) (d:List Int) (w:World) (hB:B<=w.heap.size) (hn:d.length=n) (hn4:n<=3) (hV:qcO d) (hTB:∀W,Below B w W->HasT W)
  (h5:w.heap[p5]? = some (.cells #[.slice (some ⟨g5,0,none⟩) n c5] 35 (0,0))) (h8:w.heap[p8]? = some (.cells #[.string (ftxt 1).1,.string (ftxt 1).2] 44 (0,0))) (hF:FRow w g5 n (told n (dq d))) :
  Calls Tryz.prog 127 #[.pointer (some ⟨p8,0,none⟩),.pointer (some ⟨p5,0,none⟩)] w fun e w'=>∃y,e=.returned y/\Rws w' B 44 2 y (2 ^ n) (fflat ((termL 3 d).map ftxt))/\Below B w w':=by
 have hsh:∀k,Short (dq d k):=fun k=>(dq_cd hV k).short (by decide) (by decide +kernel) (by decide +kernel)
 have hpr:∀k,k<=3->∀p∈prods d k,Short p:=fun k hk p hp=>(qfA (by decide) (dq_cd hV) k p hp).short (qbl (Nat.pow_pos (by decide))) (qaF (qa3 (by decide) hk) qjM) (qaF (qa3 (by decide) hk) qjM)
 have HS:=qH (qA hsh (qA hpr hn));have HTB:=qH hTB;obtain⟨s1,s2,hs12⟩:=qb6 1;rw [hs12] at h8;have Hs:=qH hs12;have c80:=qC w _ 0 _ _ _ h8;have c81:=qC w _ 1 _ _ _ h8;have HI:=qH (qA h5 hF);clear hsh hpr hV hn hTB h8 hs12 h5 hF;obtain⟨W1,hW1,K1⟩:=nw1 w #[.string s1,.string s2] 44;have k5:=zkeep K1.out.1 _ _ HI.out.1;have I1:Hid (T3St w B p5 p8 g5 n c5 d (prods d 0) 1 (.slice (some ⟨w.heap.size,0,none⟩) 1 1) W1):=by
  refine qH ⟨K1.out.1.mono hB,qaj hB K1.out.1.size,k5,HI.out.2.below K1.out.1,?_,?_⟩
  ·rw [show (prods d 0).map ftxt=[(s1,s2)] by rw [<-Hs.out];rfl];exact qmS K1.out.2 hB
  ·intro e;have e2:w.heap.size=g5:=qai e;have:=(qG HI.out.2.1).1;omega
 have c50:=qC w _ 0 _ _ _ HI.out.1;have hl5:=(qG HI.out.1).1;clear k5 K1;go_enter Tryz.func127,Tryz.ntmps127;go_wp2_with fail;clear c50 c80 c81
 go_loopw [3,12] (fun x3 x12 W=>∃(k:Nat),x12=.int .i64 k/\k<=n/\Hid (T3St w B p5 p8 g5 n c5 d (prods d k) (2 ^ k) x3 W)) (fun _ x12 _=>n-(intOf x12).toNat)
 case atStart=>exact⟨0,rfl,qam _,hW1▸I1⟩
 case round =>
  obtain⟨k,rfl,hk,K⟩:=hrel;obtain⟨M,hM⟩:=qX (2 ^ k);have hM8:M<=8:=by rw [<-hM];exact qa3 (by decide) (show k<=3 by omega)
  have hM1:0<M:=by rw [<-hM];exact Nat.pow_pos (by decide)
  have hlen:((prods d k).map ftxt).length=M:=by rw [qaw,qeC];exact hM
  rw [hM] at K;obtain⟨ao,g6,cy,rfl,hF6,_⟩:=qd2 K.out.2.2.2.2.1 hlen;have hao:=hF6.addr (by omega);subst hao;have HM:=qH (qA hM (qA hlen hF6));clear hM hlen hF6
  by_cases hkn:k<n
  ·have hki:(k:Int)<n:=by omega
   obtain⟨d0,d1⟩:=(K.out.2.2.2.1.cells (qbW _ _)).cell k (by rw [qbW];exact hkn);rw [qdr hkn,qaO] at d0 d1;obtain⟨v1,v2,hv⟩:=qb6 (dq d k);rw [hv] at d0 d1;have HV:=qH hv;have k50:=qC wr _ 0 _ _ _ K.out.2.2.1;obtain⟨W2,hW2,K2⟩:=nw1 wr #[.string v1,.string v2] 44;have hlt5:=(qG K2.out.2).1;have J0:Hid (T3St w B p5 p8 g5 n c5 d (half d k 0) (M+0) (.slice (some ⟨g6,0,none⟩) M cy) W2/\W2.heap[wr.heap.size]? = some (.cells #[.string v1,.string v2] 44 (0,0))/\FCells W2 (some ⟨g6,0,none⟩) g6 0 ((prods d k).map ftxt)/\(Value.slice (some ⟨g6,0,none⟩) M cy).ownBlock≠some wr.heap.size) :=
    qH ⟨by rw [qlX];exact K.out.below K2.out.1,K2.out.2,HM.out.2.2.below K2.out.1,fun e=>by
     have e2:g6=wr.heap.size:=qai e;have:=(K.out.2.2.2.2.1.lt g6 rfl).2;omega⟩
   clear hv hlt5 K2;go_wp2_with fail;obtain⟨b5,hb5⟩:∃b,wr.heap.size=b:=⟨_,rfl⟩;rw [hb5] at J0 ⊢;clear hb5
   go_loopw [3,18] (fun x3 x18 W=>∃(j:Nat),x18=.int .i64 j/\j<=M/\Hid (T3St w B p5 p8 g5 n c5 d (half d k j) (M+j) x3 W/\W.heap[b5]? = some (.cells #[.string v1,.string v2] 44 (0,0))/\FCells W (some ⟨g6,0,none⟩) g6 0 ((prods d k).map ftxt)/\x3.ownBlock≠some b5)) (fun _ x18 _=>M-(intOf x18).toNat)
   case atStart=>exact⟨0,rfl,qam _,hW2▸J0⟩
   case round =>
    obtain⟨j,rfl,hj,J⟩:=hrel;obtain⟨ay,cy2,rfl⟩:=J.out.1.2.2.2.2.1.shape
    by_cases hjM:j<M
    ·have hji:(j:Int)<M:=by omega
     obtain⟨q0,q1⟩:=J.out.2.2.1.cell j (by rw [HM.out.2.1];exact hjM);have hpl:j<(prods d k).length:=by have:=HM.out.2.1;rw [qaw] at this;omega
     have hpj:((prods d k).map ftxt).getD j fd0=ftxt ((prods d k).getD j 0):=by
      rw [qaa,qaa,qaM,qae hpl];rfl
     obtain⟨p,hp⟩:=qX ((prods d k).getD j 0);rw [hpj,hp,qaO] at q0 q1;obtain⟨p1,p2,hp12⟩:=qb6 p;rw [hp12] at q0 q1;have hpm:p∈prods d k:=by rw [<-hp,qaa,qae hpl];exact List.getElem_mem hpl
     have hpm2:p*dq d k∈prods d (k+1):=by
      show _∈prods d k++_
      exact qaN.2 (qah (qbB.2 ⟨p,hpm,rfl⟩))
     obtain⟨z1,z2,hz⟩:=qb6 (p*dq d k);have hmul:=fun (W:World) (h:Below B w W)=>mulq (HS.out.2.1 k (by omega) p hpm) (HS.out.1 k) (HS.out.2.1 (k+1) (by omega) _ hpm2) W (HTB.out W h)
     rw [hp12,HV.out,hz] at hmul;have HMu:=qH hmul;have HP:=qH (qA hp hz);have r0:=qC wr _ 0 _ _ _ J.out.2.1;have r1:=qC wr _ 1 _ _ _ J.out.2.1;have hlt5:=(qG J.out.2.1).1;obtain⟨V1,hV1,N1⟩:=nw1 wr #[.string p1,.string p2] 44;have J1:=qH (qA (J.out.1.below N1.out.1) (qA (zkeep N1.out.1 _ _ J.out.2.1) (qA (J.out.2.2.1.below N1.out.1) J.out.2.2.2)));clear hpl hpj hp hp12 hpm hpm2 hz hmul N1;go_wp2_with fail;rw [<-hV1];clear hV1 r0 r1 q0 q1;refine (HMu.out V1 J1.out.1.1).mono ?_;rintro e w3 ⟨rfl,hb3⟩;have J2:=qH (qA (J1.out.1.below hb3) (qA (zkeep hb3 _ _ J1.out.2.1) (qA (J1.out.2.2.1.below hb3) J1.out.2.2.2)));clear hb3;go_wp2_with fail;refine (qcI z1 z2 w3).mono ?_;rintro e w4 ⟨rfl,hb4⟩;obtain⟨V2,hV2,N2⟩:=nw1 w4 #[.string z1,.string z2] 44;have hb42:=hb4.trans (N2.out.1.mono hb4.size);have J3:=qH (qA (J2.out.1.below hb42) (qA (zkeep hb42 _ _ J2.out.2.1) (qA (J2.out.2.2.1.below hb42) J2.out.2.2.2)));obtain⟨y',w5,hr,hy',hway⟩:=qfD (m:=1) (c:=1) 35 J3.out.1.2.2.2.2.1 J3.out.1.2.1 (qlF N2.out.2) rfl (by decide) (by omega);have hlen2:((half d k j).map ftxt++[(z1,z2)]).length=M+j+1:=by
      have h1:=J3.out.1.2.2.2.2.1.1;rw [qck] at h1;rw [qaf];show _+1=_;omega
     have hold6:=FCells.appended J3.out.2.2.1 (by rw [HM.out.2.1];exact hM1) hlen2 hy' ⟨(((prods d k).take j).map fun p=>p*dq d k).map ftxt,by unfold half;rw [qa5]⟩ hway;obtain⟨r5,_⟩:=qcU J3.out.1.2.2.1 (by rintro e;exact absurd (qfw J3.out.1.2.2.2.2.1 J3.out.1.2.2.1 e) (by decide)) hway;obtain⟨rg,rgn⟩:=qcU J3.out.1.2.2.2.1.1 J3.out.1.2.2.2.2.2 hway;have hsz:V2.heap.size<=w5.heap.size:=by rcases hway with ⟨_,h⟩ | ⟨_,h⟩ <;> exact h.size
     have hbe:=qfv J3.out.1.1 (fun k hk=>(J3.out.1.2.2.2.2.1.lt k hk).1) J3.out.1.2.1 hway;obtain⟨hb5k,hb5n⟩:=qcU J3.out.2.1 J3.out.2.2.2 hway;rw [show (z1,z2)=ftxt ((prods d k).getD j 0*dq d k) by rw [HP.out.1];exact HP.out.2.symm,<-List.map_singleton (f:=ftxt),<-qa5,<-qlW (by rw [HM.out.1];exact hjM)] at hy';have J4:Hid (T3St w B p5 p8 g5 n c5 d (half d k (j+1)) (M+(j+1)) y' w5/\w5.heap[b5]? = some (.cells #[.string v1,.string v2] 44 (0,0))/\FCells w5 (some ⟨g6,0,none⟩) g6 0 ((prods d k).map ftxt)/\y'.ownBlock≠some b5) :=
      qH ⟨⟨hbe,qaj J3.out.1.2.1 hsz,r5,⟨rg,J3.out.1.2.2.2.1.2⟩,hy',rgn⟩,hb5k,hold6,hb5n⟩
     clear hb4 hb42 hy' hway hlen2 hold6 r5 rg rgn hsz hbe hb5k hb5n N2;rw [hV2] at hr;clear hV2
     go_wp2_with ((with_reducible refine qeU rfl (.tmp 22) (.tmp 29) 35 rfl ?_ ?_ hr ?_);(next=>rfl);(next=>rfl))
     go_roundw
     case rel=>exact⟨j+1,by go_num,hjM,J4⟩
     case measure=>simp [intOf];omega
    ·obtain rfl:j=M:=by omega
     have J1:Hid (T3St w B p5 p8 g5 n c5 d (prods d (k+1)) (2 ^ (k+1)) (.slice ay (j+j) cy2) wr):=qH (by
      have h:=J.out.1;rw [show half d k j=prods d (k+1) by rw [<-HM.out.1];exact half_all d k] at h;rw [show 2 ^ (k+1)=j+j by rw [qaD,HM.out.1];omega];exact h)
     go_wp2;go_roundw
     case rel=>exact⟨k+1,by go_num,hkn,J1⟩
     case measure=>simp [intOf];omega
  ·obtain rfl:k=n:=by omega
   go_wp2;go_ret;exact⟨_,rfl,by rw [qh8,HS.out.2.2,HM.out.1];exact K.out.2.2.2.2.1,K.out.1⟩
end Go.Proofs.YtplkdeknjghobaaGreatDoor
namespace Go.Proofs.YtplkdeknjghobaaGreatDoor.p4
def mval:List Nat->Nat
 | []=>0
 | d :: l=>d+10000*mval l
theorem qcw (l r:List Nat):mval (l++r)=mval l+10000 ^ l.length*mval r:=by
 induction l with
 | nil=>simp [mval]
 | cons d l ih =>
  simp only [List.cons_append,mval,ih,qbI,qaD];rw [qaX,qau (10000 ^ l.length) 10000,qav];omega
theorem qfU (l:List Nat) (h:∀d∈l,d<10000):mval l<10000 ^ l.length:=by
 induction l with
 | nil=>simp [mval]
 | cons d l ih =>
  have h1:=h d qbQ;have h2:=ih fun x hx=>h x (qbG _ hx)
  simp only [mval,qbI,qaD];omega
theorem qd8 (n:Nat):mval (List.replicate n 0)=0:=by
 induction n with
 | zero=>rfl
 | succ n ih=>simp [qbo,mval,ih]
theorem qcK (l:List Nat) (d:Nat):mval (l++[d])=mval l+10000 ^ l.length*d:=by
 rw [qcw];simp [mval]
theorem qhV (l:List Nat) (i d:Nat) (h:i<l.length):mval (l.set i d)+10000 ^ i*l[i]=mval l+10000 ^ i*d:=by
 induction l generalizing i with
 | nil=>exact absurd h (by simp)
 | cons x l ih =>
  cases i with
  | zero=>simp [mval];omega
  | succ i =>
   have h':i<l.length:=by simpa using h
   have:=ih i h';simp only [List.set_cons_succ,mval,List.getElem_cons_succ,qaD];have e1:10000 ^ i*10000*l[i]=10000*(10000 ^ i*l[i]):=by rw [qau (10000 ^ i),qav]
   have e2:10000 ^ i*10000*d=10000*(10000 ^ i*d):=by rw [qau (10000 ^ i),qav]
   omega
def Dig (L:List Nat):Prop:=∀k,L.getD k 0<10000
theorem Dig.mem {L:List Nat} (h:Dig L):∀d∈L,d<10000:=fun d hd=>by
 obtain⟨i,hi,rfl⟩:=List.getElem_of_mem hd;have:=h i
 rwa [qaa,qae hi] at this
theorem Dig.of {L:List Nat} (h:∀d∈L,d<10000):Dig L:=fun k=>by
 rw [qaa];cases hk:L[k]? with
 | none=>exact (by decide:0<10000)
 | some x=>exact h x (List.mem_of_getElem? hk)
theorem Dig.nil:Dig []:=Dig.of (by simp)
theorem Dig.snoc {L:List Nat} (h:Dig L) {d:Nat} (hd:d<10000):Dig (L++[d]):=Dig.of fun x hx=>by
 rcases qaN.1 hx with hx | hx
 ·exact h.mem x hx
 ·rw [qap.1 hx];exact hd
theorem Dig.set {L:List Nat} (h:Dig L) {d:Nat} (hd:d<10000) (i:Nat):Dig (L.set i d):=Dig.of fun x hx=>by
 rcases List.mem_or_eq_of_mem_set hx with hx | rfl
 ·exact h.mem x hx
 ·exact hd
theorem Dig.take {L:List Nat} (h:Dig L) (n:Nat):Dig (L.take n):=Dig.of fun x hx=>h.mem x (qbH hx)
theorem Dig.drop {L:List Nat} (h:Dig L) (n:Nat):Dig (L.drop n):=Dig.of fun x hx=>h.mem x (List.mem_of_mem_drop hx)
theorem Dig.append {L M:List Nat} (h:Dig L) (h':Dig M):Dig (L++M):=Dig.of fun x hx=>(qaN.1 hx).elim (h.mem x) (h'.mem x)
theorem Dig.zeros (n:Nat):Dig (List.replicate n 0):=Dig.of fun x hx=>by rw [(List.mem_replicate.1 hx).2];decide
theorem Dig.lt {L:List Nat} (h:Dig L):mval L<10000 ^ L.length:=qfU L h.mem
theorem qdK {L:List Nat} {k:Nat} (h:k<L.length):L[k]? = some (L.getD k 0):=by
 rw [qae h,qaa,qae h];rfl
theorem qdl {L:List Nat} {k:Nat} (h:L.length<=k):L.getD k 0=0:=by
 rw [qaa,qba h];rfl
theorem qbV (L:List Nat) (k:Nat):mval (L.take (k+1))=mval (L.take k)+10000 ^ k*L.getD k 0:=by
 by_cases h:k<L.length
 ·rw [List.take_add_one,qdK h]
  show mval (L.take k++[L.getD k 0])=_
  rw [qcK,qar,qaZ (qao h)]
 ·rw [qak (by omega),qak (by omega),qdl (by omega)];simp
theorem qcJ (L:List Nat) (k:Nat):mval (L.drop k)=L.getD k 0+10000*mval (L.drop (k+1)):=by
 by_cases h:k<L.length
 ·rw [qbp h];simp only [mval];rw [qaa,qae h];rfl
 ·rw [qaG (by omega),qaG (by omega),qdl (by omega)];simp [mval]
theorem qdW (L:List Nat) (k:Nat) (hk:k<=L.length):mval L=mval (L.take k)+10000 ^ k*mval (L.drop k):=by
 conv=>lhs;rw [<-List.take_append_drop k L]
 rw [qcw,qar,qaZ hk]
theorem getD_set_ne {L:List Nat} {i j d:Nat} (h:i≠j):(L.set i d).getD j 0=L.getD j 0:=by
 rw [qaa,List.getElem?_set_ne h,<-qaa]
theorem qcQ {L:List Nat} {i d:Nat} (h:i<L.length):(L.set i d).getD i 0=d:=by
 rw [qaa,List.getElem?_set_self h];rfl
theorem qc4 {L:List Nat} {k d:Nat} (h:k<L.length):mval ((L.set k d).take (k+1))=mval (L.take k)+10000 ^ k*d:=by
 rw [qbV,qcQ h]
 congr 2
 rw [List.take_set_of_le qN]
theorem qdn {L:List Nat} {k d:Nat} (h:k<L.length):mval ((L.set k d).drop k)=d+10000*mval (L.drop (k+1)):=by
 rw [qcJ,qcQ h,List.drop_set_of_lt (by omega)]
theorem qeA {L:List Nat} {k d:Nat} (h:k<L.length):mval (L.set k d)+10000 ^ k*L.getD k 0=mval L+10000 ^ k*d:=by
 have:=qhV L k d h
 rwa [qaa,qae h]
def Zero (L:List Nat) (n:Nat):Prop:=∀k,n<=k->L.getD k 0=0
theorem Zero.all (L:List Nat):Zero L L.length:=fun _ h=>qdl h
theorem Zero.mono {L:List Nat} {n m:Nat} (h:Zero L n) (hm:n<=m):Zero L m:=fun k hk=>h k (by omega)
theorem Zero.zeros (n m:Nat):Zero (List.replicate n 0) m:=fun k _=>by
 by_cases h:k<n
 ·rw [qaa,qbc,if_pos h];rfl
 ·exact qdl (by rw [qaQ];omega)
theorem Zero.set {L:List Nat} {n k d:Nat} (h:Zero L n) (hk:k<n):Zero (L.set k d) n:=fun j hj=>by rw [getD_set_ne (by omega)];exact h j hj
theorem Zero.set_succ {L:List Nat} {n d:Nat} (h:Zero L n):Zero (L.set n d) (n+1):=fun j hj=>by rw [getD_set_ne (by omega)];exact h j (by omega)
theorem Zero.down {L:List Nat} {n:Nat} (h:Zero L (n+1)) (h0:L.getD n 0=0):Zero L n:=fun k hk=>by
 by_cases e:k=n
 ·rw [e];exact h0
 ·exact h k (by omega)
theorem qdw {L:List Nat} {n:Nat} (h:Zero L n):mval (L.drop n)=0:=by
 induction hm:L.length-n generalizing n with
 | zero=>rw [qaG (by omega)];rfl
 | succ m ih =>
  rw [qcJ,h n qN,ih (h.mono (by omega)) (by omega)]
theorem qcp {L:List Nat} {n:Nat} (h:Zero L n):mval (L.take n)=mval L:=by
 by_cases hn:n<=L.length
 ·rw [qdW L n hn,qdw h];omega
 ·rw [qak (by omega)]
def Nrm (L:List Nat):Prop:=L.length=0\/L.getD (L.length-1) 0≠0
theorem Nrm.ge {L:List Nat} (h:Nrm L) (h0:0<L.length):10000 ^ (L.length-1)<=mval L:=by
 have h1:=h.resolve_left (by omega);have e:=qbV L (L.length-1);rw [show L.length-1+1=L.length by omega,qbi] at e;rw [e];exact qaj (Nat.le_mul_of_pos_right _ (qbe h1)) (Nat.le_add_left _ _)
theorem Nrm.snoc (L:List Nat) {d:Nat} (h:d≠0):Nrm (L++[d]):=by
 right
 rw [qaf,qax,Nat.add_sub_cancel,qaa,qas qN,qaI];exact h
theorem Nrm.zero {L:List Nat} (h:Nrm L):mval L=0↔L.length=0:=by
 constructor
 ·intro e;rcases qaK L.length with h0 | h0
  ·exact h0
  ·have:=h.ge h0;have:=Nat.pow_pos (n:=L.length-1) (show 0<10000 by decide);omega
 ·intro e;rw [qbu.1 e];rfl
theorem Nrm.len {L:List Nat} (h:Nrm L) {n:Nat} (hv:mval L<10000 ^ n):L.length<=n:=by
 rcases qaK L.length with h0 | h0
 ·omega
 ·have h1:=h.ge h0;have h2:=(Nat.pow_lt_pow_iff_right (show 1<10000 by decide)).1 (qaF h1 hv);omega
theorem qgx {P B x y z s c c' m o:Nat} (h1:x+P*c=y+z) (h2:s+B*c'=m+c+o):x+P*s+P*B*c'=y+P*m+(z+P*o):=by
 have h:=congrArg (P * ·) h2;simp only [qaX] at h;have e1:P*B*c'=P*(B*c'):=by simp only [qav]
 omega
theorem qfq {P B x y z s b b' m o:Nat} (h1:x+z=y+P*b) (h2:s+b+o=m+B*b'):x+P*s+(z+P*o)=y+P*m+P*B*b':=by
 have h:=congrArg (P * ·) h2;simp only [qaX] at h;have e1:P*B*b'=P*(B*b'):=by simp only [qav]
 omega
theorem qhf {A C B x p s c c' d e X Y Z: Nat} (h1:Y+A*C*p=x+A*C*s) (h2:x+A*C*c=X+A*d*Z) (h3:s+B*c'=c+(p+d*e)):Y+A*(C*B)*c'=X+A*d*(Z+C*e):=by
 have h:=congrArg (A*C * ·) h3;simp only [qaX] at h ⊢;have e1:A*(C*B)*c'=A*C*(B*c'):=by simp only [qav]
 have e2:A*d*(C*e)=A*C*(d*e):=by simp only [qav,qbv]
 omega
theorem qhY {A A1 E E1 x c d d1 X Y Z:Nat} (h1:Y+E*0=x+E*c) (h2:x+E*c=X*Z+A*d*Z):Y+E1*0=(X+A*d)*Z+A1*d1*mval []:=by
 simp only [mval,Nat.mul_zero,qbh,qaB] at *;omega
theorem qg7 {B R d r m M q t:Nat} (h1:R*d+r=M) (h2:d*q+t=r*B+m):(q+B*R)*d+t=m+B*M:=by
 subst h1;simp only [qaX,qaB];have e1:B*R*d=B*(R*d):=by simp only [qav]
 have e2:q*d=d*q:=qau _ _;have e3:r*B=B*r:=qau _ _;omega
structure PlusInv (m o:List Nat) (k:Nat) (L:List Nat) (c:Nat):Prop where
 len:L.length=k
 dig:Dig L
 carry:c<=1
 val:mval L+10000 ^ k*c=mval (m.take k)+mval (o.take k)
theorem PlusInv.start (m o:List Nat):PlusInv m o 0 [] 0:=⟨rfl,Dig.nil,by decide,by simp [mval]⟩
theorem PlusInv.step {m o L:List Nat} {k c s c':Nat} (h:PlusInv m o k L c) (hs:s<10000) (hc:c'<=1) (e:s+10000*c'=m.getD k 0+c+o.getD k 0):PlusInv m o (k+1) (L++[s]) c':=by
 refine⟨by rw [qaf,h.len];rfl,h.dig.snoc hs,hc,?_⟩;have hv:=h.val;rw [qcK,h.len,qbV,qbV,qaD];exact qgx hv e
theorem PlusInv.done {m o L:List Nat} {c:Nat} (h:PlusInv m o m.length L c) (ho:o.length<=m.length):mval L+10000 ^ m.length*c=mval m+mval o:=by
 have:=h.val
 rwa [qak qN,qak ho] at this
structure MinusInv (m o:List Nat) (k:Nat) (R:List Nat) (b:Nat):Prop where
 len:R.length=m.length
 dig:Dig R
 carry:b<=1
 val:mval (R.take k)+mval (o.take k)=mval (m.take k)+10000 ^ k*b
theorem MinusInv.start (m o:List Nat):MinusInv m o 0 (List.replicate m.length 0) 0:=⟨by simp,Dig.zeros _,by decide,by simp [mval]⟩
theorem MinusInv.step {m o R:List Nat} {k b s b':Nat} (h:MinusInv m o k R b) (hk:k<m.length) (hs:s<10000) (hb:b'<=1) (e:s+b+o.getD k 0=m.getD k 0+10000*b'):MinusInv m o (k+1) (R.set k s) b':=by
 refine⟨by rw [qbb,h.len],h.dig.set hs _,hb,?_⟩;have hv:=h.val;rw [qc4 (by rw [h.len];exact hk),qbV,qbV,qaD];exact qfq hv e
theorem MinusInv.done {m o R:List Nat} {b:Nat} (h:MinusInv m o m.length R b) (ho:o.length<=m.length) (hle:mval o<=mval m):mval R=mval m-mval o:=by
 have hv:=h.val;rw [qak qN,qak ho,qak (by rw [h.len];exact qad _)] at hv;have h1:=h.dig.lt;rw [h.len] at h1;have h2:=h.carry;rcases (show b=0\/b=1 by omega) with rfl | rfl
 ·omega
 ·omega
structure TimesInv (m o:List Nat) (i j:Nat) (P:List Nat) (c:Nat):Prop where
 len:P.length=m.length+o.length
 dig:Dig P
 carry:c<10000
 zero:Zero P (i+o.length)
 val:mval P+10000 ^ (i+j)*c=mval (m.take i)*mval o+10000 ^ i*m.getD i 0*mval (o.take j)
theorem TimesInv.start (m o:List Nat):TimesInv m o 0 0 (List.replicate (m.length+o.length) 0) 0:=⟨by simp,Dig.zeros _,by decide,Zero.zeros _ _,by simp [mval,qd8]⟩
theorem TimesInv.step {m o P:List Nat} {i j c s c':Nat} (h:TimesInv m o i j P c) (hi:i<m.length) (hj:j<o.length) (hs:s<10000) (hc:c'<10000) (e:s+10000*c'=c+(P.getD (i+j) 0+m.getD i 0*o.getD j 0)):TimesInv m o i (j+1) (P.set (i+j) s) c':=by
 refine⟨by rw [qbb,h.len],h.dig.set hs _,hc,h.zero.set (by omega),?_⟩;have hv:=h.val;have hs:=qeA (L:=P) (k:=i+j) (d:=s) (by rw [h.len];omega);rw [qbV,Nat.pow_add,qaD];rw [Nat.pow_add] at hs hv;exact qhf hs hv e
theorem TimesInv.next {m o P:List Nat} {i c:Nat} (h:TimesInv m o i o.length P c) (hi:i<m.length):TimesInv m o (i+1) 0 (P.set (i+o.length) c) 0:=by
 refine⟨by rw [qbb,h.len],h.dig.set h.carry _,by decide,?_,?_⟩
 ·have:=h.zero.set_succ (d:=c)
  rwa [show i+o.length+1=i+1+o.length by omega] at this
 have hv:=h.val;have hs:=qeA (L:=P) (k:=i+o.length) (d:=c) (by rw [h.len];omega);rw [h.zero _ qN] at hs;rw [qak qN] at hv;rw [qbV,List.take_zero];exact qhY hs hv
theorem TimesInv.done {m o P:List Nat} {c:Nat} (h:TimesInv m o m.length 0 P c) (hc:c=0):mval P=mval m*mval o:=by
 have hv:=h.val;subst hc;rw [qak qN] at hv
 simpa [mval] using hv
structure ShortInv (m:List Nat) (d k:Nat) (R:List Nat) (r:Nat):Prop where
 len:R.length=m.length
 dig:Dig R
 rest:r<d
 val:mval (R.drop k)*d+r=mval (m.drop k)
theorem ShortInv.start (m:List Nat) {d:Nat} (hd:0<d):ShortInv m d m.length (List.replicate m.length 0) 0:=⟨by simp,Dig.zeros _,hd,by rw [qaG (by simp),qaG (by simp)];simp [mval]⟩
theorem ShortInv.step {m R:List Nat} {d k r:Nat} (h:ShortInv m d (k+1) R r) (hk:k<m.length) (hm:Dig m):ShortInv m d k (R.set k ((r*10000+m.getD k 0) / d)) ((r*10000+m.getD k 0) % d):=by
 have hd:0<d:=by have:=h.rest;omega
 have hq:(r*10000+m.getD k 0) / d<10000:=by
  rw [qbC hd];have h1:=hm k;have h2:=h.rest;have:(r+1)*10000<=d*10000:=qa7 _ (by omega);omega
 refine⟨by rw [qbb,h.len],h.dig.set hq _,qbk _ hd,?_⟩;rw [qdn (by rw [h.len];exact hk),qcJ m k,<-h.val];have:=Nat.div_add_mod (r*10000+m.getD k 0) d;exact qg7 rfl this
theorem ShortInv.done {m R:List Nat} {d r:Nat} (h:ShortInv m d 0 R r):mval R=mval m / d/\r=mval m % d:=by
 have hv:=h.val;simp only [List.drop_zero] at hv;have hr:=h.rest;rw [<-hv]
 constructor
 ·rw [qau,Nat.mul_add_div (by omega),Nat.div_eq_of_lt hr];rfl
 ·rw [qau,Nat.mul_add_mod,Nat.mod_eq_of_lt hr]
