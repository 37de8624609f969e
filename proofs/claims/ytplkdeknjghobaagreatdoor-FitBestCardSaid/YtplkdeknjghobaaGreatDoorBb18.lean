import Derived.Maps.Own
import Derived.Maps.OwnOps
import Derived.Maps.Views
import Derived.Test.YtplkdeknjghobaaGreatDoorBb17
set_option maxRecDepth 100000
set_option maxHeartbeats 0
namespace Go.Proofs.YtplkdeknjghobaaGreatDoor
open Go.RowKit Go.Maps
def rawR (v:Value):Option (DataW Value×List MemPlace):=some (.held v,[])
def MapAt (W:World) (P:Program) (k:TypeId) (b n:Nat) (z:Value) (f:Lit->Value):Prop :=
 ∃D,W.ownsMap P k rawR b n D/\IsMap D/\∀F,WideAt.IsKeyLit F->D.atKey F (.held z)=.held (f F)
theorem MapAt.made (w:World) (P:Program) (k:TypeId) (z:Value):MapAt (w.alloc (.map #[] 0)) P k w.heap.size 0 z fun _=>z :=
 ⟨_,World.ownsMap_made _ _ _ _,isMap_empty,fun _ _=>rfl⟩
theorem MapAt.lt {W:World} {P:Program} {k:TypeId} {b n:Nat} {z:Value} {f:Lit->Value} (h:MapAt W P k b n z f):b<W.heap.size:=by
 obtain⟨D,h,_⟩:=h;exact h.lt
theorem MapAt.kept {W W':World} {P:Program} {k:TypeId} {b n:Nat} {z:Value} {f:Lit->Value} {row:Option Nat} (h:MapAt W P k b n z f) (hg:W.grownBy W' row) (hne:some b≠row):MapAt W' P k b n z f:=by
 obtain⟨D,h,F,H⟩:=h;exact⟨D,h.kept hg hne,F,H⟩
theorem MapAt.below {W W':World} {P:Program} {k:TypeId} {b n:Nat} {z:Value} {f:Lit->Value} (h:MapAt W P k b n z f) (F:Below W.heap.size W W'):MapAt W' P k b n z f :=
 h.kept (row:=none) ⟨F.os,F.tape,F.output,F.size,fun i H _=>F.block i H⟩ (by simp)
theorem MapAt.congr {W:World} {P:Program} {k:TypeId} {b n:Nat} {z:Value} {f g:Lit->Value} (h:MapAt W P k b n z f) (e:∀F,WideAt.IsKeyLit F->f F=g F):MapAt W P k b n z g:=by
 obtain⟨D,h,I,J⟩:=h;exact⟨D,h,I,fun F H=>by rw [J F H,e F H]⟩
theorem MapAt.look {W:World} {P:Program} {k t e:TypeId} {b n:Nat} {z:Value} {f:Lit->Value} (h:MapAt W P k b n z f) (K:Keyed P k) (U:P.underlying t=some (.map k e)) (V:(zeroValue e).run P W=.ok z W) {key:Value} {I:Lit} (F:keyOf P k key=some I) :
  (Instr.lookup t (.map (some b)) key false).run P W=.ok (f I) W:=by
 obtain⟨D,h,_,J⟩:=h;obtain⟨v,ps,O,H⟩:=h.lookup K U V (zd:=.held z) (zp:=[]) rfl F;rw [J I (K.key F)] at H;unfold rawR at H;simp only [Option.some.injEq,Prod.mk.injEq,DataW.held.injEq] at H;rw [<-H.1];exact O
theorem MapAt.store {W:World} {P:Program} {k t e:TypeId} {b n:Nat} {z:Value} {f:Lit->Value} (h:MapAt W P k b n z f) (K:Keyed P k) (ht:P.underlying t=some (.map k e)) (hn:n<maxLen) {I:Value} {O:Lit} (F:keyOf P k I=some O) (val:Value) :
  ∃W',(Instr.mapUpdate t (.map (some b)) I val).run P W=.ok () W'/\(∀J:Lit->Value,J O=val->(∀x,x≠O->J x=f x)->MapAt W' P k b (n+1) z J)/\W.grownBy W' (some b):=by
 obtain⟨D,h,U,Z⟩:=h;obtain⟨W',hr,H,hg⟩:=h.update K ht hn F (show rawR val=some (.held val,[]) from rfl);refine⟨W',hr,fun J V Y=>⟨_,H,U.put _ _,fun x hx=>?_⟩,hg⟩
 by_cases e:x=O
 ·subst e;rw [V];exact atKey_put_same U hx _ _
 ·rw [Y x e,atKey_put_other e];exact Z x hx
end Go.Proofs.YtplkdeknjghobaaGreatDoor
namespace Go.Proofs.YtplkdeknjghobaaGreatDoor
open Go Go.RowKit
instance stays_int {v:Value} {z:Int}:Stays fun W=>IntAt W v z:=⟨fun h F=>h.below F⟩
instance stays_mag {v:Value} {x:Nat}:Stays fun W=>MagAt W v x:=⟨fun h F=>h.below F⟩
instance stays_rat {v:Value} {q:Rat}:Stays fun W=>RatV W v q:=⟨fun h F=>h.below F⟩
instance stays_fc {F:Option Addr} {b off:Nat} {l:List FT}:Stays fun W=>FCells W F b off l:=⟨fun h H=>h.below H⟩
instance stays_nc {F:Option Addr} {b off:Nat} {l:List Int}:Stays fun W=>NCells W F b off l:=⟨fun h H=>h.below H⟩
instance stays_pc {F:Option Addr} {b off:Nat} {l:List Pt}:Stays fun W=>PCells W F b off l:=⟨fun h H=>h.below H⟩
instance stays_tab:Stays fun W=>HasT W:=⟨fun h F=>h.below F⟩
open Go.Proofs.Tryz
theorem qcd (q:Rat):∃s t,ftxt q=(s,t):=⟨_,_,rfl⟩
theorem mulq {p q:Rat} (I:Short p) (sq:Short q) (J:Short (p*q)) (w:World) (hT:HasT w) :
  Calls prog 26 #[.agg #[.string (ftxt p).1,.string (ftxt p).2],.agg #[.string (ftxt q).1,.string (ftxt q).2]] w fun e F=>e=.returned (.tuple #[.agg #[.string (ftxt (p*q)).1,.string (ftxt (p*q)).2],.int .i64 0])/\Below w.heap.size w F:=by
 refine (fmul_any _ _ _ _ w hT).mono ?_;rintro e F ⟨⟨_,h⟩ | ⟨h,_⟩,H⟩
 ·rw [qcN,qcN] at h;rcases h with ⟨_,h⟩ | ⟨h,_⟩
  ·exact⟨h,H⟩
  ·exact absurd J h
 ·exact absurd ⟨qdh I,qdh sq⟩ h
theorem qmN {z d:Int} (I:0<d) (H:z.natAbs<1000000000000000000000) (F:d.natAbs<1000000000000000000000):Valid (qb7 z).data.toList/\Valid (qb7 d).data.toList/\Fit z.natAbs 3/\Fit d.natAbs 3/\0<d.natAbs :=
 ⟨qfY (qai H (by decide +kernel)),qfY (qai F (by decide +kernel)),qeA (by omega),qeA (by omega),by omega⟩
theorem qdV {z d:Int} (H:0<d) (I:z.natAbs<1000000000000000000000) (F:d.natAbs<1000000000000000000000):Short ((z:Rat) / (d:Rat)) :=
 qdk (qgX (N:=1000000000000000000000) (by omega) (by omega) (by omega) rfl) (by decide +kernel)
theorem quo_mk {z d:Int} (F:0<d):mkRat z d.natAbs=(z:Rat) / (d:Rat):=by
 rw [<-Rat.divInt_ofNat,Rat.divInt_eq_div];have:((d.natAbs:Int):Rat)=(d:Rat):=by rw [Int.natAbs_of_nonneg (by omega)]
 rw [<-this]
theorem quo_fit {z d:Int} (H:0<d) (I:z.natAbs<1000000000000000000000) (F:d.natAbs<1000000000000000000000):RFit ((z:Rat) / (d:Rat)) 3:=by
 have h:Rb ((z:Rat) / (d:Rat)) 1000000000000000000000:=qgX (by omega) (by omega) (by omega) rfl;exact⟨qeA (qaL h.1 (by decide)),qeA (qaL h.2 (by decide))⟩
theorem qjl {s:ByteArray} (h:Valid s.data.toList) (w:World):Calls prog 146 #[.string s] w fun e F=>e=.returned (.int .i64 0)/\Below w.heap.size w F:=by
 refine (qeX s w).mono ?_;rintro e F ⟨c,rfl,⟨rfl,_⟩ | ⟨_,I⟩,H⟩
 ·exact⟨rfl,H⟩
 ·exact absurd h I
theorem make_int (z d:Int) (hd:0<d) (hz:z.natAbs<1000000000000000000000) (U:d.natAbs<1000000000000000000000) (w:World) (hP:HasT w) :
  Calls prog 79 #[.string (qb7 z),.string (qb7 d)] w fun e w'=>e=.returned (.tuple #[fstr ((z:Rat) / (d:Rat)),.int .i64 0])/\Below w.heap.size w w':=by
 obtain⟨va,vb,fa,fb,h0⟩:=qmN hd hz U;have aB:=qdV hd hz U;have Y:=quo_fit hd hz U;have ay:=quo_mk (z:=z) hd;have af:=qjn z;have ag:=qjn d;obtain⟨sa,az⟩:∃s,qb7 z=s:=⟨_,rfl⟩;obtain⟨sb,aA⟩:∃s,qb7 d=s:=⟨_,rfl⟩;rw [az] at va af ⊢;rw [aA] at vb ag ⊢;have HV:=qH (qA va (qA vb (qA af ag)));have V:=qH (qA fa (qA fb (qA h0 (qA aB (qA Y (qA ay hP))))));have Hd:=qH hd;clear az aA va vb fa fb h0 aB Y ay af ag hP hd hz U;obtain⟨W1,ai,K1⟩:=nw1 w #[.string ⟨#[]⟩,.string ⟨#[]⟩] 44;have aI:=qH (qjl HV.o.1 W1);go_enter func79,ntmps79;go_wp2_with fail;rw [<-ai];clear ai;refine aI.o.mono ?_;rintro e w2 ⟨rfl,F⟩;have K2:=K1.below F;clear F;have aJ:=qH (qjl HV.o.2.1 w2);go_wp2_with fail;refine aJ.o.mono ?_;rintro e w3 ⟨rfl,F⟩;have K3:=K2.below F;clear F;have HN:=qH ((qcn .f) sa HV.o.1 w3);go_wp2_with fail;refine HN.o.mono ?_;rintro e w4 ⟨v4,rfl,F,aF⟩;have K4:=K3.on (q:=fun W=>IntAt W v4 z) F (by rw [<-HV.o.2.2.1];exact aF);clear F aF;have aK:=qH ((qcn .f) sb HV.o.2.1 w4);obtain⟨a4,n4,c4,b4,rfl⟩:=qbV K4.o.2;go_wp2_with fail;refine aK.o.mono ?_;rintro e w5 ⟨v5,rfl,F,aG⟩;have K5:=K4.on (q:=fun W=>IntAt W v5 d) F (by rw [<-HV.o.2.2.2];exact aG);clear F aG;obtain⟨a5,n5,c5,b5,rfl⟩:=qbV K5.o.2;have aM:b5=false:=by
  obtain⟨m,e,_⟩:=K5.o.2;simp only [qaP,qaV,qaN,qbw] at e;rw [e.2.1];exact qU (by have:=Hd.o;omega)
 subst aM;have ak:(if b4=true then -(z.natAbs:Int) else (z.natAbs:Int))=z:=by
  obtain⟨m,e,_⟩:=K4.o.2;simp only [qaP,qaV,qaN,qbw] at e;rw [e.2.1]
  by_cases h:z<0
  ·rw [if_pos (by simpa using h)];omega
  ·rw [if_neg (by simpa using h)];omega
 have av:MagAt w5 (.slice a4 n4 c4) z.natAbs:=by
  obtain⟨m,e,hm⟩:=K5.o.1.2;simp only [qaP,qaV,qaN] at e;rw [e.1];exact hm
 have ax:MagAt w5 (.slice a5 n5 c5) d.natAbs:=by
  obtain⟨m,e,hm⟩:=K5.o.2;simp only [qaP,qaV,qaN] at e;rw [e.1];exact hm
 obtain⟨W6,aj,I⟩:=nw2 w5 #[.slice a4 n4 c4,.bool b4] 136 #[.slice a5 n5 c5,.bool false] 136;have HM:=qH (qA av (qA ax ak));have K7:=K5.below I.o.1;have aH:decide (d.natAbs=0)=false:=qU (by have:=V.o.2.2.1;omega);have HZ:=qH ((qcw .f) d.natAbs _ W6 (HM.o.2.1.below I.o.1));rw [aH] at HZ;have aL:=qC W6 _ 0 _ _ _ I.o.2.2;have aR:w.heap.size<w5.heap.size:=(qG K5.o.1.1.2).1;clear ak av ax aH;go_wp2_with fail;rw [<-aj];clear aj;refine HZ.o.mono ?_;rintro e w7 ⟨rfl,hw⟩;have hw:=hw.symm;subst hw;clear aL;have aN:=rowG (g0:=w.heap.size) I.o.2.1 0;have aO:=rowG (g0:=w.heap.size) I.o.2.1 1;have aP:=rowG (g0:=w.heap.size) I.o.2.2 0;have aQ:=rowG (g0:=w.heap.size) I.o.2.2 1;go_wp2_with fail;refine wp_region_held_drew (S:=fun W=>W6.grownBy W (some w.heap.size)) (by kernel_rfl) (keepB qB.drew) (fun hS0=>?_);refine hT 0 (h:=hT 1 (h:=hT 2 (h:=hT 3 (h:=hT 4 (h:=hT 5 (h:=hT 6 (h:=hT 8 (h:=hT 9 (h:=?_)))))))));refine hC 7 (f:=95) ((qb6 .f) z.natAbs b4 _ _ ((HM.o.1.below I.o.1).below qB.drew)) (h:=?_);rintro e w7 ⟨u,rfl,H,hu⟩;rw [HM.o.2.2] at hu;obtain⟨au,nu,cu,bu,rfl⟩:=qbV hu;have K8:=K7.below (qb4 H);refine⟨_,rfl,qhw H,hN (h:=?_)⟩;refine hC 10 (qjW z d.natAbs 3 (by decide) _ _ w7 hu ((HM.o.2.1.below I.o.1).below (qb4 H)) V.o.1 V.o.2.1 V.o.2.2.1) (h:=?_);rintro e w8 ⟨r,rfl,aa,hr⟩;rw [V.o.2.2.2.2.2.1] at hr;obtain⟨ar,nr,cr,br,er,fr,gr,rfl⟩:=qcH hr;have Z:=qck (qhw (g:=w.heap.size) H) aa;have K9:=K8.below aa;refine⟨_,rfl,Z,hN (h:=?_)⟩;refine hC 11 (qeU _ 3 (by decide) (by decide) _ w8 hr V.o.2.2.2.2.1 (V.o.2.2.2.2.2.2.below K9.o.1.1.1)) (h:=?_);rintro e w9 ⟨h,ae⟩;rcases h with ⟨_,rfl⟩ | ⟨h,_⟩
 case inr=>exact absurd V.o.2.2.2.1 h
 have O:=qck Z ae;have J:=K9.below ae;unfold fstr;obtain⟨t1,aC⟩:∃t,qb7 ((z:Rat) / (d:Rat)).num=t:=⟨_,rfl⟩;obtain⟨t2,aD⟩:∃t,num ((z:Rat) / (d:Rat)).den=t:=⟨_,rfl⟩;rw [aC,aD];refine⟨_,rfl,O,hN (h:=?_)⟩;refine hT 12 (h:=hT 13 (h:=?_));refine hSn 14 2 J.o.1.1.2 (h:=⟨qbZ O (qci _ _ _),?_⟩);have ah:=qbZ O (qci w9 w.heap.size #[.string t1,.string t2]);refine hT 15 (h:=?_);refine wpAnyH_done (by kernel_rfl) ?_ _;have HE:=qH (qA (qS J.o.1.1.1 qN #[.string t1,.string t2]) J.o.1.1.2);clear J K9 K8 K7 I ah O Z ae aa H hr hu;go_wp2_with fail;exact qR (v:=.tuple #[.agg #[.string t1,.string t2],.int .i64 0]) (rB_ rfl w.heap.size (qT _ _ _ _ _ _ HE.o.2) underlying44 2) rfl ⟨by rw [<-aC,<-aD];rfl,HE.o.1⟩
theorem of_int (z d:Int) (hd:0<d) (Z:-9223372036854775808<=z/\z<=9223372036854775807) (U:d<=9223372036854775807) (w:World) (J:HasT w) :
  Calls prog 23 #[.int .i64 z,.int .i64 d] w fun e w'=>e=.returned (.tuple #[.agg #[.string (ftxt ((z:Rat) / (d:Rat))).1,.string (ftxt ((z:Rat) / (d:Rat))).2],.int .i64 0])/\Below w.heap.size w w':=by
 obtain⟨t1,t2,V⟩:=qcd ((z:Rat) / (d:Rat));rw [V];obtain⟨W1,O,K1⟩:=nw1 w #[.string ⟨#[]⟩,.string ⟨#[]⟩] 44;have HP:=qH J;have HA:=qH (qn2 z Z.1 Z.2 W1 (J.below K1.o.1));have HB:=qH (fun (W:World) (h:Below w.heap.size w W)=>qn2 d (by omega) U W (J.below h));have HM:=qH (fun (W:World) (h:Below w.heap.size w W)=>make_int z d hd (by omega) (by omega) W (J.below h));have HT:=qH V;obtain⟨sz,I⟩:∃s,qb7 z=s:=⟨_,rfl⟩;obtain⟨sd,H⟩:∃s,qb7 d=s:=⟨_,rfl⟩;rw [I] at HA;rw [H] at HB;rw [I,H,qem,V] at HM;clear J V hd Z U I H;go_enter func23,ntmps23;go_wp2_with fail;rw [<-O];clear O;refine HA.o.mono ?_;rintro e w2 ⟨rfl,F⟩;have K2:=K1.below F;clear F;go_wp2_with fail;refine (HB.o w2 K2.o.1).mono ?_;rintro e w3 ⟨rfl,F⟩;have K3:=K2.below F;clear F;go_wp2_with fail;refine (HM.o w3 K3.o.1).mono ?_;rintro e w4 ⟨rfl,F⟩;have Y:=K3.below F;clear F
 go_wp2_with ((with_reducible refine sR_ rfl 44 _ _ rfl (w.heap.size) #[.string t1,.string t2] Y.o.2 2 ?_))
 exact qR (v:=.tuple #[.agg #[.string t1,.string t2],.int .i64 0]) (rB_ rfl w.heap.size (qT _ _ _ _ _ _ Y.o.2) underlying44 2) rfl ⟨rfl,qS Y.o.1 qN _⟩
def SaysT (w:World) (P:Prop) (e:Ending) (F:World):Prop:=∃b:Bool,e=.returned (.bool b)/\(b=true↔P)/\Below w.heap.size w F
theorem SaysT.yes {w F:World} {P:Prop} (h:P) (H:Below w.heap.size w F):SaysT w P (.returned (.bool true)) F:=⟨true,rfl,⟨fun _=>h,fun _=>rfl⟩,H⟩
theorem SaysT.no {w F:World} {P:Prop} (h:¬P) (H:Below w.heap.size w F):SaysT w P (.returned (.bool false)) F:=⟨false,rfl,⟨fun e=>(by cases e),fun k=>absurd k h⟩,H⟩
theorem qiQ (c:UInt8):(c.toNat<45/\qdx c=false)\/(c.toNat=45/\qdx c=true)\/((45<c.toNat/\c.toNat<48)/\qdx c=false)\/((48<=c.toNat/\c.toNat<=57)/\qdx c=true)\/((57<c.toNat/\c.toNat<65)/\qdx c=false) \/
  ((65<=c.toNat/\c.toNat<=90)/\qdx c=true)\/((90<c.toNat/\c.toNat<95)/\qdx c=false)\/(c.toNat=95/\qdx c=true)\/(c.toNat=96/\qdx c=false)\/((97<=c.toNat/\c.toNat<=122)/\qdx c=true)\/(122<c.toNat/\qdx c=false):=by
 have F:qdx c=decide ((65<=c.toNat/\c.toNat<=90)\/(97<=c.toNat/\c.toNat<=122)\/(48<=c.toNat/\c.toNat<=57)\/c.toNat=45\/c.toNat=95):=by
  unfold qdx;rw [Bool.eq_iff_iff];simp only [Bool.or_eq_true,decide_eq_true_eq];omega
 rw [F];simp only [decide_eq_true_eq,decide_eq_false_iff_not];omega
theorem qm0 (s:ByteArray) (w:World) (hs:s.size<=4611686018427387904) :
    Calls prog 195 #[.string s] w fun e w'=>SaysT w (qhp s) e w':=by
  by_cases Z:1<=s.size
  case neg =>
    have hi:(s.size:Int)<1:=by omega
    go_enter func195,ntmps195;go_wp2;go_ret;exact .no (fun h=>Z h.1) qB
  have ae:¬(s.size:Int)<1:=by omega
  by_cases h2:s.size<=12
  case neg =>
    have hi:(12:Int)<s.size:=by omega
    go_enter func195,ntmps195;go_wp2;go_ret;exact .no (fun h=>h2 h.2.1) qB
  have af:¬(12:Int)<s.size:=by omega
  go_enter func195,ntmps195;go_wp2_with fail
  go_loop [16] (fun x16=>∃k:Nat,k<=s.size/\x16=.int .i64 k/\Hu (∀j (h:j<s.size),j<k->qdx s[j]=true)) (fun x16=>s.size-(intOf x16).toNat)
  case atStart=>exact⟨0,qal _,rfl,qH (fun j _ h=>absurd h (by omega))⟩
  case round =>
    obtain⟨k,hk,rfl,hJ⟩:=hrel
    by_cases J:k<s.size
    · have ah:(k:Int)<s.size:=by omega
      have U:=qiQ s[k];have aa:s[k].toNat<256:=s[k].toNat_lt;rcases U with ⟨h,F⟩ | ⟨h,F⟩ | ⟨h,F⟩ | ⟨h,F⟩ | ⟨h,F⟩ | ⟨h,F⟩ | ⟨h,F⟩ | ⟨h,F⟩ | ⟨h,F⟩ | ⟨h,F⟩ | ⟨h,F⟩
      all_goals
        have Y:=qH F;clear F;obtain⟨q1,H⟩:∃q,((s[k].toNat:Int) != 45)=q:=⟨_,rfl⟩;obtain⟨q2,I⟩:∃q,((s[k].toNat:Int) != 95)=q:=⟨_,rfl⟩;obtain rfl:q1=decide ((s[k].toNat:Int)≠45):=by rw [<-H,Bool.eq_iff_iff,bne_iff_ne,decide_eq_true_eq]
        obtain rfl:q2=decide ((s[k].toNat:Int)≠95):=by rw [<-I,Bool.eq_iff_iff,bne_iff_ne,decide_eq_true_eq]
        first | rw [qV (show ((s[k].toNat:Int)≠45) by omega)] at H | rw [qU (show ¬((s[k].toNat:Int)≠45) by omega)] at H
        first | rw [qV (show ((s[k].toNat:Int)≠95) by omega)] at I | rw [qU (show ¬((s[k].toNat:Int)≠95) by omega)] at I
        go_wp2_with fail
        all_goals first
          | (exfalso;omega)
          | (go_ret
             exact .no (fun hn=>by have:=hn.2.2 k J;rw [Y.o] at this;cases this) qB)
          | (have V:qdx s[k]=true:=Y.o
             go_round
             case rel=>exact⟨k+1,J,by go_num,qH (fun j O ag=>by
               rcases (show j<k\/j=k by omega) with h | h
               · exact hJ.o j O h
               · subst h;exact V)⟩
             case measure=>simp [intOf];omega)
          | (exfalso;omega)
          | (exfalso;rename_i hz;simp at hz;omega)
    · obtain rfl:k=s.size:=by omega
      go_wp2;go_ret;exact .yes ⟨Z,h2,fun j O=>hJ.o j O O⟩ qB
theorem qe6 (w:World) :
  Calls prog 196 #[.int .i64 0] w fun e F=>e=.returned (.tuple #[.int .i64 0,.int .i64 10000])/\w=F:=by
 go_enter func196,ntmps196;go_wp2_with fail
 go_ret2
 exact⟨rfl,rfl⟩
theorem qdq (i:Int) (h:i≠0) (w:World) :
  Calls prog 196 #[.int .i64 i] w fun e F=>e=.returned (.tuple #[.int .i64 (-12800),.int .i64 12700])/\w=F:=by
 have H:(i == 0)=false:=by simpa using h
 go_enter func196,ntmps196;go_wp2_with fail
 go_ret2
 exact⟨rfl,rfl⟩
def PtAt (W:World) (v:Value) (p:Pt):Prop:=∃(F:Option Addr) (rb H rc:Nat),v=.agg #[.string p.name,.slice F p.dev.length rc,.int .i64 p.l0,.int .i64 p.l1,.int .i64 p.l2]/\NCells W F rb H p.dev
def qiE (k:Nat):Int:=if k=0 then 0 else -12800
def qgG (k:Nat):Int:=if k=0 then 10000 else 12700
theorem qnG (v:Value) (p:Pt) (w:World) (hv:PtAt w v p) (hs:p.name.size<=4611686018427387904) (hd:p.dev.length<=4611686018427387904) :
  Calls prog 124 #[v] w fun e w'=>SaysT w (PtOk p) e w':=by
 obtain⟨ra,rb,ro,rc,rfl,hN⟩:=hv;obtain⟨nm,dev,l0,l1,l2⟩:=p;simp only [] at hs hd hN ⊢;obtain⟨n,hn⟩:=qX dev.length;rw [hn] at hd ⊢;obtain⟨W1,ag,K1⟩:=nw1 w #[.string nm,.slice ra n rc,.int .i64 l0,.int .i64 l1,.int .i64 l2] 55;have I:=qH (qA (hN.below K1.o.1) hn);have ah:=qm0 nm W1 hs;have aj:=qH ah;have c0:=qC W1 _ 0 _ _ _ K1.o.2;have c1:=qC W1 _ 1 _ _ _ K1.o.2;have hl:=(qG K1.o.2).1;clear hN hn ah;go_enter func124,ntmps124;go_wp2_with fail;rw [<-ag];clear ag;refine aj.o.mono ?_;rintro e w2 ⟨b,rfl,Y,ae⟩;have J:=K1.below ae;have ai:=qH ae;clear c0 c1 ae;have c1:=qC w2 _ 1 _ _ _ J.o.2;cases b with
 | false =>
  have HX:=qH (show ¬qhp nm from fun h=>by have:=Y.2 h;cases this);clear Y;go_wp2;go_ret;exact .no (fun h=>HX.o h.name) J.o.1
 | true =>
  have HX:=qH (Y.1 rfl);clear Y
  by_cases h1:1<=n
  case neg =>
   have hi:(n:Int)<1:=by omega
   go_wp2;go_ret;exact .no (fun h=>h1 (by have:=h.n1;have:=I.o.2;simp only [] at *;omega)) J.o.1
  have av:¬(n:Int)<1:=by omega
  by_cases h2:n<=4
  case neg =>
   have hi:(4:Int)<n:=by omega
   go_wp2;go_ret;exact .no (fun h=>h2 (by have:=h.n4;have:=I.o.2;simp only [] at *;omega)) J.o.1
  have ax:¬(4:Int)<n:=by omega
  have ak:=I.o.1.addr (by have:=I.o.2;omega);subst ak;go_wp2_with fail
  go_loop [28] (fun x28=>∃k:Nat,k<=n/\x28=.int .i64 k/\Hu (∀j,j<k->0<=dev.getD j 0/\dev.getD j 0<=10000)) (fun x28=>n-(intOf x28).toNat)
  case atStart=>exact⟨0,qal _,rfl,qH (fun j h=>absurd h (by omega))⟩
  case round =>
   obtain⟨k,hk,rfl,V⟩:=hrel
   by_cases au:k<n
   ·have az:(k:Int)<n:=by omega
    have af:=I.o.1.below ai.o;have d0:=af.cell k (by have:=I.o.2;omega);obtain⟨x,hx⟩:=qX (dev.getD k 0);rw [hx] at d0;have aa:=qH hx;clear hx af
    by_cases O:x<0
    ·go_wp2;go_ret;exact .no (fun h=>by have:=h.vals k (by have:=I.o.2;simp only [];omega);have:=aa.o;simp only [] at *;omega) J.o.1
    ·by_cases U:10000<x
     ·go_wp2;go_ret;exact .no (fun h=>by have:=h.vals k (by have:=I.o.2;simp only [];omega);have:=aa.o;simp only [] at *;omega) J.o.1
     ·go_wp2_with fail
      go_round
      case rel=>exact⟨k+1,au,by go_num,qH (fun j hj=>by
       rcases (show j<k\/j=k by omega) with h | h
       ·exact V.o j h
       ·subst h;rw [aa.o];omega)⟩
      case measure=>simp [intOf];omega
   ·obtain rfl:k=n:=by omega
    have c2:=qC w2 _ 2 _ _ _ J.o.2;have c3:=qC w2 _ 3 _ _ _ J.o.2;have c4:=qC w2 _ 4 _ _ _ J.o.2;have HV:=qH (show qcJ dev from fun j hj=>V.o j (by have:=I.o.2;omega));clear V;have aA:∀W,(Instr.index 53 (.agg #[.int .i64 l0,.int .i64 l1,.int .i64 l2]) (.int .i64 0)).run prog W=.ok (.int .i64 l0) W:=fun _=>by kernel_rfl
    have aB:∀W,(Instr.index 53 (.agg #[.int .i64 l0,.int .i64 l1,.int .i64 l2]) (.int .i64 1)).run prog W=.ok (.int .i64 l1) W:=fun _=>by kernel_rfl
    have aC:∀W,(Instr.index 53 (.agg #[.int .i64 l0,.int .i64 l1,.int .i64 l2]) (.int .i64 2)).run prog W=.ok (.int .i64 l2) W:=fun _=>by kernel_rfl
    have F:=qH J.o.1;clear J K1;go_wp2_with fail;clear c1 c2 c3 c4
    go_loop [41] (fun x41=>∃k:Nat,k<=3/\x41=.int .i64 k/\Hu (∀j,j<k->qiE j<=(Pt.lab ⟨nm,dev,l0,l1,l2⟩ j)/\(Pt.lab ⟨nm,dev,l0,l1,l2⟩ j)<=qgG j)) (fun x41=>3-(intOf x41).toNat)
    case atStart=>exact⟨0,qal _,rfl,qH (fun j h=>absurd h (by omega))⟩
    case round =>
     obtain⟨i,ay,rfl,V⟩:=hrel;have H:Hu (∀j,j<3->¬(qiE j<=(Pt.lab ⟨nm,dev,l0,l1,l2⟩ j)/\(Pt.lab ⟨nm,dev,l0,l1,l2⟩ j)<=qgG j)->¬PtOk ⟨nm,dev,l0,l1,l2⟩):=qH (fun j hj hn h=>hn (by
      rcases (show j=0\/j=1\/j=2 by omega) with rfl | rfl | rfl
      ·exact h.l0
      ·exact h.l1
      ·exact h.l2))
     rcases (show i=0\/i=1\/i=2\/i=3 by omega) with rfl | rfl | rfl | rfl
     ·by_cases O:l0<0
      ·go_wp2_with ((go_at_call 196;refine (qe6 _).mono ?_;rintro e Z ⟨rfl,rfl⟩))
       go_ret;exact .no (H.o 0 (by decide) (fun h=>by have:=h.1;show False;exact absurd O (by simpa [qiE,Pt.lab] using this))) F.o
      ·by_cases U:10000<l0
       ·go_wp2_with ((go_at_call 196;refine (qe6 _).mono ?_;rintro e Z ⟨rfl,rfl⟩))
        go_ret;exact .no (H.o 0 (by decide) (fun h=>by have:=h.2;exact absurd U (by simpa [qgG,Pt.lab] using this))) F.o
       ·go_wp2_with ((go_at_call 196;refine (qe6 _).mono ?_;rintro e Z ⟨rfl,rfl⟩))
        go_round
        case rel=>exact⟨1,by decide,rfl,qH (fun j hj=>by
         obtain rfl:j=0:=by omega
         exact⟨O,U⟩)⟩
        case measure=>simp [intOf]
     ·by_cases O:l1 < -12800
      ·go_wp2_with ((go_at_call 196;refine (qdq _ (by decide) _).mono ?_;rintro e Z ⟨rfl,rfl⟩))
       go_ret;exact .no (H.o 1 (by decide) (fun h=>by have:=h.1;exact absurd O (by simpa [qiE,Pt.lab] using this))) F.o
      ·by_cases U:12700<l1
       ·go_wp2_with ((go_at_call 196;refine (qdq _ (by decide) _).mono ?_;rintro e Z ⟨rfl,rfl⟩))
        go_ret;exact .no (H.o 1 (by decide) (fun h=>by have:=h.2;exact absurd U (by simpa [qgG,Pt.lab] using this))) F.o
       ·go_wp2_with ((go_at_call 196;refine (qdq _ (by decide) _).mono ?_;rintro e Z ⟨rfl,rfl⟩))
        go_round
        case rel=>exact⟨2,by decide,rfl,qH (fun j hj=>by
         rcases (show j<1\/j=1 by omega) with h | rfl
         ·exact V.o j h
         ·exact⟨O,U⟩)⟩
        case measure=>simp [intOf]
     ·by_cases O:l2 < -12800
      ·go_wp2_with ((go_at_call 196;refine (qdq _ (by decide) _).mono ?_;rintro e Z ⟨rfl,rfl⟩))
       go_ret;exact .no (H.o 2 (by decide) (fun h=>by have:=h.1;exact absurd O (by simpa [qiE,Pt.lab] using this))) F.o
      ·by_cases U:12700<l2
       ·go_wp2_with ((go_at_call 196;refine (qdq _ (by decide) _).mono ?_;rintro e Z ⟨rfl,rfl⟩))
        go_ret;exact .no (H.o 2 (by decide) (fun h=>by have:=h.2;exact absurd U (by simpa [qgG,Pt.lab] using this))) F.o
       ·go_wp2_with ((go_at_call 196;refine (qdq _ (by decide) _).mono ?_;rintro e Z ⟨rfl,rfl⟩))
        go_round
        case rel=>exact⟨3,by decide,rfl,qH (fun j hj=>by
         rcases (show j<2\/j=2 by omega) with h | rfl
         ·exact V.o j h
         ·exact⟨O,U⟩)⟩
        case measure=>simp [intOf]
     ·go_wp2;go_ret;exact .yes ⟨HX.o,by have:=I.o.2;simp only [];omega,by have:=I.o.2;simp only [];omega,HV.o,V.o 0 (by decide),V.o 1 (by decide),V.o 2 (by decide)⟩ F.o
theorem qeu (w:World):Calls prog 52 #[.int .i64 0] w fun e F=>e=.returned (.tuple #[])/\w=F:=by
 go_enter func52,ntmps52;go_wp2_with fail
 go_end0
 exact⟨rfl,rfl⟩
theorem qcj (c:Int) (h:c≠0) (w:World):Calls prog 52 #[.int .i64 c] w fun e F=>e=thrown c/\w=F:=by
 have H:(c != 0)=true:=by rw [bne_iff_ne];exact h
 go_enter func52,ntmps52;go_wp2_with fail;exact⟨rfl,rfl,rfl⟩
theorem qcE (x y:ByteArray) (w:World):Calls prog 60 #[.agg #[.string x,.string y],.int .i64 0] w fun e J=>e=.returned (.agg #[.string x,.string y])/\Below w.heap.size w J:=by
 obtain⟨I,H,F⟩:=nw2 w #[.string x,.string y] 44 #[.string ⟨#[]⟩,.string ⟨#[]⟩] 44;have c0:=qC I _ 0 _ _ _ F.o.2.1;have c1:=qC I _ 1 _ _ _ F.o.2.1;go_enter func60,ntmps60;go_wp2_with fail;rw [<-H];clear H;refine (qeu _).mono ?_;rintro e O ⟨rfl,rfl⟩
 go_wp2_with ((with_reducible refine sR_ rfl 44 _ _ rfl (w.heap.size+1) #[.string x,.string y] F.o.2.2 2 ?_))
 exact qR (v:=.agg #[.string x,.string y]) (rA_ rfl (w.heap.size+1) (qT _ _ _ _ _ _ F.o.2.2) underlying44 2) rfl ⟨rfl,qS F.o.1 (by omega) _⟩
theorem qm3 (x y:ByteArray) (c:Int) (h:c≠0) (w:World):Calls prog 60 #[.agg #[.string x,.string y],.int .i64 c] w fun e I=>e=thrown c/\Below w.heap.size w I:=by
 obtain⟨J,F,H⟩:=nw2 w #[.string x,.string y] 44 #[.string ⟨#[]⟩,.string ⟨#[]⟩] 44;go_enter func60,ntmps60;go_wp2_with fail;rw [<-F];clear F;refine (qcj c h _).mono ?_;rintro e O ⟨rfl,rfl⟩;exact⟨rfl,rfl,H.o.1⟩
theorem qkw (F:Option Addr) (n c:Nat) (w:World):Calls prog 128 #[.slice F n c,.int .i64 0] w fun e H=>e=.returned (.slice F n c)/\w=H:=by
 go_enter func128,ntmps128;go_wp2_with fail;refine (qeu _).mono ?_;rintro e I ⟨rfl,rfl⟩;go_wp2;go_ret;exact⟨rfl,rfl⟩
theorem qgQ (F:Option Addr) (n c:Nat) (d:Int) (h:d≠0) (w:World):Calls prog 128 #[.slice F n c,.int .i64 d] w fun e H=>e=thrown d/\w=H:=by
 go_enter func128,ntmps128;go_wp2_with fail;refine (qcj d h _).mono ?_;rintro e I ⟨rfl,rfl⟩;exact⟨rfl,rfl,rfl⟩
theorem qer (n:Int) (w:World):Calls prog 140 #[.int .i64 n,.int .i64 0] w fun e F=>e=.returned (.int .i64 n)/\w=F:=by
 go_enter func140,ntmps140;go_wp2_with fail;refine (qeu _).mono ?_;rintro e H ⟨rfl,rfl⟩;go_wp2;go_ret;exact⟨rfl,rfl⟩
theorem qgP (n d:Int) (h:d≠0) (w:World):Calls prog 140 #[.int .i64 n,.int .i64 d] w fun e F=>e=thrown d/\w=F:=by
 go_enter func140,ntmps140;go_wp2_with fail;refine (qcj d h _).mono ?_;rintro e H ⟨rfl,rfl⟩;exact⟨rfl,rfl,rfl⟩
theorem qhx {kind:Int} {k:Nat} (h:qcA kind k):kind=1/\k=1\/kind=2/\k=2\/kind=3/\k=3:=by
 obtain⟨rfl,F,H⟩:=h;omega
theorem qgF (kind:Int) (w:World):Calls prog 54 #[.int .i64 kind] w fun e I=>e=.returned (.bool (decide (1<=kind/\kind<=3)))/\w=I:=by
 by_cases F:1<=kind
 ·by_cases H:kind<=3
  ·rw [qV (show 1<=kind/\kind<=3 from ⟨F,H⟩)];go_enter func54,ntmps54;go_wp2;go_ret;exact⟨rfl,rfl⟩
  ·rw [qU (show ¬(1<=kind/\kind<=3) from fun h=>H h.2)];go_enter func54,ntmps54;go_wp2;go_ret;exact⟨rfl,rfl⟩
 ·rw [qU (show ¬(1<=kind/\kind<=3) from fun h=>F h.1)];go_enter func54,ntmps54;go_wp2;go_ret;exact⟨rfl,rfl⟩
theorem qf4 (U:Option Addr) (b off n c:Nat) (d:List Int) (m:Int) (w:World) (Y:d.length=n) (hl:n<=4611686018427387904) (hN:NCells w U b off d) :
  Calls prog 77 #[.slice U n c,.int .i64 m] w fun e w'=>∃r:Int,e=.returned (.int .i64 r)/\(r=0/\((n:Int)=m/\qcJ d)\/r=2/\¬((n:Int)=m/\qcJ d))/\w=w':=by
 by_cases O:(n:Int)=m
 case neg =>
  have hne:((n:Int) != m)=true:=by rw [bne_iff_ne];exact O
  clear hN;go_enter func77,ntmps77;go_wp2;go_ret;exact⟨2,rfl,qag ⟨rfl,fun h=>O h.1⟩,rfl⟩
 subst O;have F:=qH (qA hN Y);clear hN Y;go_enter func77,ntmps77;go_wp2_with fail
 go_loop [13] (fun x13=>∃k:Nat,k<=n/\x13=.int .i64 k/\Hu (∀j,j<k->0<=d.getD j 0/\d.getD j 0<=10000)) (fun x13=>n-(intOf x13).toNat)
 case atStart=>exact⟨0,qal _,rfl,qH (fun j h=>absurd h (by omega))⟩
 case round =>
  obtain⟨k,hk,rfl,V⟩:=hrel
  by_cases J:k<n
  ·have aa:(k:Int)<n:=by omega
   have I:=F.o.1.addr (by have:=F.o.2;omega);subst I;have d0:=F.o.1.cell k (by have:=F.o.2;omega);obtain⟨x,hx⟩:=qX (d.getD k 0);rw [hx] at d0;have H:=qH hx;clear hx
   by_cases e1:x<0
   ·go_wp2;go_ret;exact⟨2,rfl,qag ⟨rfl,fun h=>by have:=h k (by have:=F.o.2;omega);have:=H.o;omega⟩,rfl⟩
   ·by_cases e2:10000<x
    ·go_wp2;go_ret;exact⟨2,rfl,qag ⟨rfl,fun h=>by have:=h k (by have:=F.o.2;omega);have:=H.o;omega⟩,rfl⟩
    ·go_wp2_with fail
     go_round
     case rel=>exact⟨k+1,J,by go_num,qH (fun j Z=>by
      rcases (show j<k\/j=k by omega) with h | h
      ·exact V.o j h
      ·subst h;rw [H.o];omega)⟩
     case measure=>simp [intOf];omega
  ·obtain rfl:k=n:=by omega
   go_wp2;go_ret;exact⟨0,rfl,qan ⟨rfl,fun j Z=>V.o j (by have:=F.o.2;omega)⟩,rfl⟩
def lin (d:List Int):List Rat:=1 :: (List.range d.length).map (dq d)
def sqs (d:List Int) (k:Nat):List Rat:=(List.range k).map fun j=>dq d j*dq d j
theorem qmK (d:List Int):(lin d).length=d.length+1:=by simp [lin]
theorem sqs_succ (d:List Int) (k:Nat):sqs d (k+1)=sqs d k++[dq d k*dq d k]:=by unfold sqs;rw [List.range_succ,qa3];rfl
theorem qjZ (d:List Int):termL 2 d=lin d++sqs d d.length:=rfl
theorem qhc (d:List Int):termL 3 d=prods d d.length:=rfl
theorem qfU (kind:Nat) (d:List Int):told (many kind d.length) (termQ kind d)=(termL kind d).map ftxt:=by
 rw [<-qeJ];refine List.ext_getElem (by rw [qb0,qav]) fun i F I=>?_
 rw [qb0] at F;have H:=qdr (x:=termQ kind d) F;rw [qaa,qad (by rw [qb0];exact F)] at H;rw [List.getElem_map];refine Eq.trans H ?_;unfold termQ;rw [qaa,qad F];rfl
theorem lin_told (d:List Int):(lin d).map ftxt=ftxt 1 :: told d.length (dq d):=by unfold lin told;rw [qbv,List.map_map];rfl
theorem FCells.part {W:World} {F:Option Addr} {b off:Nat} {l l2:List FT} (h:FCells W F b off (l++l2)):FCells W F b off l :=
 ⟨fun I=>h.addr (by rw [qaf];omega),fun k H=>by
  have:=h.cell k (by rw [qaf];omega);rw [qaa,qas H,<-qaa] at this;exact this⟩
theorem FCells.appended {w J:World} {B:Nat} {v Z:Value} {n' g:Nat} {l l2:List FT} {L:List FT} (U:FCells w (some ⟨g,0,none⟩) g 0 L) (h0:0<L.length) (hn:(l++l2).length=n') (I:Rws J B 44 2 Z n' (fflat (l++l2))) (H:∃Y,l=L++Y)
  (h:Z.ownBlock=v.ownBlock/\w.grownBy J v.ownBlock\/Z.ownBlock=some w.heap.size/\w.grownBy J none):FCells J (some ⟨g,0,none⟩) g 0 L:=by
 rcases h with ⟨e,F⟩ | ⟨_,F⟩
 ·by_cases hg:v.ownBlock=some g
  ·obtain⟨ao,g',cap,rfl,O,_⟩:=qd7 I hn;have ha:=O.addr (by rw [qaf];obtain⟨Y,rfl⟩:=H;rw [qaf];omega);subst ha;have:g'=g:=by
    have h1:some g'=v.ownBlock:=e;rw [hg] at h1;exact qah h1
   subst this;obtain⟨Y,rfl⟩:=H;rw [qaI] at O;exact O.part
  ·exact⟨U.addr,fun k V=>by
    obtain⟨c1,c2⟩:=U.cell k V;exact⟨F.cell c1 (fun e=>hg e.symm),F.cell c2 (fun e=>hg e.symm)⟩⟩
 ·exact U.below ⟨F.os,F.tape,F.output,F.size,fun i hi=>F.block i hi (fun e=>by cases e)⟩
theorem qcP {w J:World} {v I:Value} {g:Nat} {o:Obj} (hg:w.heap[g]? = some o) (hne:v.ownBlock≠some g) (h:I.ownBlock=v.ownBlock/\w.grownBy J v.ownBlock\/I.ownBlock=some w.heap.size/\w.grownBy J none):J.heap[g]? = some o/\I.ownBlock≠some g:=by
 have F:=(qG hg).1;rcases h with ⟨e,H⟩ | ⟨e,H⟩
 ·exact⟨(H.block g F (fun e=>hne e.symm)).trans hg,by rw [e];exact hne⟩
 ·exact⟨(H.block g F (fun e=>by cases e)).trans hg,by rw [e];intro O;have:=qah O;omega⟩
theorem qdZ {w H a:World} {B:Nat} {v J:Value} (I:Below B a w) (U:∀k,v.ownBlock=some k->B<=k) (V:B<=w.heap.size) (h:J.ownBlock=v.ownBlock/\w.grownBy H v.ownBlock\/J.ownBlock=some w.heap.size/\w.grownBy H none):Below B a H:=by
 rcases h with ⟨_,F⟩ | ⟨_,F⟩
 ·exact I.trans ⟨F.os,F.tape,F.output,F.size,fun i O=>F.block i (by omega) (fun e=>by have:=U i e.symm;omega)⟩
 ·exact I.trans ⟨F.os,F.tape,F.output,F.size,fun i O=>F.block i (by omega) (fun e=>by cases e)⟩
theorem qfy {W:World} {B:Nat} {y:Value} {n g:Nat} {H:List Value} {cs:Array Value} {t:TypeId} (h:Rws W B 44 2 y n H) (hg:W.heap[g]? = some (.cells cs t (0,0))) (e:y.ownBlock=some g):44=t:=by
 rcases h.2 with ⟨rfl,_⟩ | ⟨g',cap,cur,rfl,_,F,_⟩
 ·cases e
 ·have:g'=g:=qah e;subst this;have:=F.symm.trans hg;simp at this;exact this.2
theorem qnx {W:World} {g F:Nat} {cs cs':Array Value} {t H:TypeId} (h:W.heap[g]? = some (.cells cs t (0,0))) (I:W.heap[F]? = some (.cells cs' H (0,0))) (e:g=F):t=H:=by
 subst e;have:=h.symm.trans I;simp at this;exact this.2
theorem qlF (p:Nat) (y:Value) (w:World) (h:w.heap[p]? = some (.cells #[y] 35 (0,0))) (hy:∃a n c,y=.slice a n c) :
  Calls prog 125 #[.pointer (some ⟨p,0,none⟩)] w fun e F=>e=.returned y/\w=F:=by
 obtain⟨a,n,c,rfl⟩:=hy;have c0:=qC w _ 0 _ _ _ h;go_enter func125,ntmps125;go_wp2;go_ret;exact⟨rfl,rfl⟩
def T2St (w:World) (B H I F n c5:Nat) (d:List Int) (k:Nat) (y:Value) (W:World):Prop :=
 Below B w W/\W.heap[H]? = some (.cells #[.slice (some ⟨F,0,none⟩) n c5] 35 (0,0))/\W.heap[I]? = some (.cells #[y] 35 (0,0))/\FRow W F n (told n (dq d))/\Rws W B 44 2 y (n+1+k) (fflat ((lin d++sqs d k).map ftxt))/\y.ownBlock≠some F
theorem T2St.below {w:World} {B I J H n c5:Nat} {d:List Int} {k:Nat} {y:Value} {W W':World} (h:T2St w B I J H n c5 d k y W) (O:B<=W.heap.size) (F:Below W.heap.size W W'):T2St w B I J H n c5 d k y W' :=
 ⟨h.1.trans (F.mono O),zkeep F _ _ h.2.1,zkeep F _ _ h.2.2.1,h.2.2.2.1.below F,h.2.2.2.2.1.below F,h.2.2.2.2.2⟩
theorem qlG (B p5 p9 g5 n c5:Nat) (d:List Int) (y0:Value) (w:World) (hB:B<=w.heap.size) (aH:B<=p9) (hp:p5≠p9) (hn:d.length=n) (aL:n<=4) (hV:qcJ d) (aj:∀W,Below B w W->HasT W) (hI:T2St w B p5 p9 g5 n c5 d 0 y0 w) :
  Calls prog 126 #[.pointer (some ⟨p5,0,none⟩),.pointer (some ⟨p9,0,none⟩)] w fun e w'=>∃y,e=.returned y/\Rws w' B 44 2 y (n+1+n) (fflat ((termL 2 d).map ftxt))/\Below B w w':=by
 have ax:∀k,Short (dq d k):=fun k=>(dq_cd hV k).short (by decide) (by decide +kernel) (by decide +kernel)
 have az:∀k,Short (dq d k*dq d k):=fun k=>((dq_cd hV k).mul (dq_cd hV k) (by decide) (by decide)).short (by decide) (by decide +kernel) (by decide +kernel)
 have HS:=qH (qA ax (qA az hn));have HI:=qH hI;have aA:=qH aj;have aB:=qC w _ 0 _ _ _ hI.2.1;clear ax az hV hI hn aj;go_enter func126,ntmps126;go_wp2_with fail;clear aB
 go_loopw [7] (fun x7 W=>∃(k:Nat) (y:Value),x7=.int .i64 k/\k<=n/\Hu (T2St w B p5 p9 g5 n c5 d k y W/\B<=W.heap.size)) (fun x7 _=>n-(intOf x7).toNat)
 case atStart=>exact⟨0,y0,rfl,qal _,qH ⟨HI.o,hB⟩⟩
 case round =>
  obtain⟨k,y,rfl,hk,K⟩:=hrel
  by_cases ah:k<n
  ·have aK:(k:Int)<n:=by omega
   have ak:=K.o.1.2.2.2.1.cells (qb0 _ _);obtain⟨d0,d1⟩:=ak.cell k (by rw [qb0];exact ah);rw [qdr ah,qaM] at d0 d1;obtain⟨x1,x2,hx⟩:=qcd (dq d k);rw [hx] at d0 d1;have HX:=qH hx;clear hx ak;go_wp2_with fail;obtain⟨W1,Z⟩:=qY (wr.alloc (.cells #[.string x1,.string x2] 44));rw [<-Z];have af:Below wr.heap.size wr W1:=Z▸qbU qB qN;have av:W1.heap[wr.heap.size]? = some (.cells #[.string x1,.string x2] 44 (0,0)):=by rw [Z];exact qM _ _ _ rfl
   have V:=qH (qA (K.o.1.below K.o.2 af) (qA (qaj K.o.2 af.size) av));clear Z af av d0 d1;refine wp_region_held_drew (S:=fun _=>True) (by kernel_rfl) trivial (fun hS0=>?_);refine gr [(0,11),(1,12),(2,13),(3,14),(4,15),(5,16),(6,17),(7,18)] [(3,[1,2]),(4,[3]),(5,[3]),(6,[4,5]),(7,[6])] [] [0,1,2,3,4,5,6,7] [] 8 10
    (fl2 [(0,fun z _=>z=y),(1,fun z _=>z=.agg #[.string x1,.string x2]),(2,fun z _=>z=.agg #[.string x1,.string x2]),(3,fun z _=>z=.tuple #[.agg #[.string (ftxt (dq d k*dq d k)).1,.string (ftxt (dq d k*dq d k)).2],.int .i64 0]),(4,fun z _=>z=.agg #[.string (ftxt (dq d k*dq d k)).1,.string (ftxt (dq d k*dq d k)).2]),(5,fun z _=>z=.int .i64 0),(6,fun z _=>z=.agg #[.string (ftxt (dq d k*dq d k)).1,.string (ftxt (dq d k*dq d k)).2]),
     (7,fun z W=>∃g:Nat,W.heap[g]? = some (.cells #[.string (ftxt (dq d k*dq d k)).1,.string (ftxt (dq d k*dq d k)).2] 44 (0,0))/\z=.slice (some ⟨g,0,none⟩) 1 1)]) _ 2
    (hS:=fun _ _=>trivial) (hstep:=⟨⟨_,rfl,fun v O I H Kk J=>?_⟩,⟨_,rfl,fun v O I H Kk J=>?_⟩,⟨_,rfl,fun v O I H Kk J=>?_⟩,⟨_,rfl,fun v O I H Kk J=>?_⟩,⟨_,rfl,fun v O I H Kk J=>?_⟩,⟨_,rfl,fun v O I H Kk J=>?_⟩,⟨_,rfl,fun v O I H Kk J=>?_⟩,⟨_,rfl,fun v O I H Kk J=>?_⟩,trivial⟩) (hend:=fun v O I H _ fu=>?_)
   ·have h0:=qC _ _ 0 _ _ _ (V.o.1.below V.o.2.1 (qb4 I)).2.2.1;exact gV J rfl
   ·have q0:=qC _ _ 0 _ _ _ (zkeep (qb4 I) _ _ V.o.2.2);have q1:=qC _ _ 1 _ _ _ (zkeep (qb4 I) _ _ V.o.2.2);exact gV J rfl
   ·have q0:=qC _ _ 0 _ _ _ (zkeep (qb4 I) _ _ V.o.2.2);have q1:=qC _ _ 1 _ _ _ (zkeep (qb4 I) _ _ V.o.2.2);exact gV J rfl
   ·have e1:v 1=_:=H.1;have e2:v 2=_:=H.2.1;have hm:=mulq (HS.o.1 k) (HS.o.1 k) (HS.o.2.1 k) O (aA.o O (V.o.1.below V.o.2.1 (qb4 I)).1);rw [HX.o] at hm;exact gC J hm (h:=fun e w4 ⟨e1,h2⟩=>⟨_,e1,rfl,h2⟩)
   ·have e1:v 3=_:=H.1;exact gV J rfl
   ·have e1:v 3=_:=H.1;exact gV J rfl
   ·have e1:v 4=_:=H.1;have e2:v 5=_:=H.2.1;exact gC J (qcE _ _ O) (h:=fun e w4 ⟨e1,h2⟩=>⟨_,e1,rfl,h2⟩)
   ·have e1:v 6=_:=H.1;exact gW J (h:=⟨⟨O.heap.size,qM _ _ _ rfl,rfl⟩,qbU qB qN⟩)
   have e0:v 0=_:=H 0 (by decide) (by decide);obtain⟨g7,au,e7⟩:∃g:Nat,_:=H 7 (by decide) (by decide);have U:=V.o.1.below V.o.2.1 (qb4 I);have ai:B<=O.heap.size:=qaj V.o.2.1 (qb4 I).size;obtain⟨y',w4,hr,Y,F⟩:=qfB (m:=1) (c:=1) 35 U.2.2.2.2.1 ai (qmb au) rfl (by decide) (by omega);obtain⟨h5,aF⟩:=qcP U.2.1 (by rintro e;exact absurd (qfy U.2.2.2.2.1 U.2.1 e) (by decide)) F;obtain⟨h9,aG⟩:=qcP U.2.2.1 (by rintro e;exact absurd (qfy U.2.2.2.2.1 U.2.2.1 e) (by decide)) F;obtain⟨ag,aa⟩:=qcP U.2.2.2.1.1 U.2.2.2.2.2 F;have ae:=qdZ U.1 (fun k hk=>(U.2.2.2.2.1.lt k hk).1) ai F;have aI:O.heap.size<=w4.heap.size:=by rcases F with ⟨_,h⟩ | ⟨_,h⟩ <;> exact h.size
   rw [<-List.map_singleton (f:=ftxt),<-qa3,qaI,<-sqs_succ] at Y;obtain⟨ay,cy,rfl⟩:=Y.shape;rw [e0,e7];have aC:=qC w4 _ 0 _ _ _ h9;have aD:=qF w4 _ 0 _ _ h9;refine hE 8 (he:=by exact qfT rfl rfl rfl rfl hr) (h:=⟨trivial,hN (h:=?_)⟩);refine hSg 9 (h:=⟨trivial,?_⟩);refine wpAnyH_done (by kernel_rfl) ?_ _;have K5:Hu (T2St w B p5 p9 g5 n c5 d (k+1) (.slice ay (n+1+k+1) cy) (w4.setCell ⟨p9,0,none⟩ (.slice ay (n+1+k+1) cy))/\B<=(w4.setCell ⟨p9,0,none⟩ (.slice ay (n+1+k+1) cy)).heap.size):=by
    refine qH ⟨⟨ae.setCell (by exact aH) _,(qW _ _ _ _ hp).trans h5,heap_setCell_same _ _ 0 _ _ _ h9,⟨(qW _ _ _ _ (fun e=>absurd (qnx ag h9 e) (by decide))).trans ag,U.2.2.2.1.2⟩,?_,aa⟩,by rw [qbt];omega⟩;exact Y.kept (qbW w4 p9 0 _) (qag (fun e=>absurd (qfy Y h9 e) (by decide)))
   clear ae Y hr h5 aF h9 aG ag aa F aC aD au H I e0 e7 U;go_wp2;go_roundw
   case rel=>exact⟨k+1,_,by go_num,ah,K5⟩
   case measure=>simp [intOf];omega
  ·obtain rfl:k=n:=by omega
   have aJ:=qC wr _ 0 _ _ _ K.o.1.2.2.1;go_wp2;go_ret;exact⟨y,rfl,by rw [qjZ,HS.o.2.2];exact K.o.1.2.2.2.2.1,K.o.1.1⟩
def half (d:List Int) (k j:Nat):List Rat:=prods d k++((prods d k).take j).map fun p=>p*dq d k
theorem qmu (d:List Int) (k:Nat):half d k 0=prods d k:=by simp [half]
theorem qmt {d:List Int} {k j:Nat} (h:j<2 ^ k):half d k (j+1)=half d k j++[(prods d k).getD j 0*dq d k]:=by
 unfold half;have F:j<(prods d k).length:=by rw [qeH];exact h
 rw [List.take_succ_eq_append_getElem F,qa3,qaI,qaa,qad F]
 rfl
theorem half_all (d:List Int) (k:Nat):half d k (2 ^ k)=prods d (k+1):=by
 unfold half;rw [qak (by rw [qeH];exact qae _)];rfl
def T3St (w:World) (B H _p8 F n c5:Nat) (d:List Int) (L:List Rat) (m:Nat) (y:Value) (W:World):Prop :=
 Below B w W/\B<=W.heap.size/\W.heap[H]? = some (.cells #[.slice (some ⟨F,0,none⟩) n c5] 35 (0,0))/\FRow W F n (told n (dq d))/\Rws W B 44 2 y m (fflat (L.map ftxt))/\y.ownBlock≠some F
theorem T3St.below {w:World} {B I J H n c5 m:Nat} {d:List Int} {L:List Rat} {y:Value} {W W':World} (h:T3St w B I J H n c5 d L m y W) (F:Below W.heap.size W W'):T3St w B I J H n c5 d L m y W' :=
 ⟨h.1.trans (F.mono h.2.1),qaj h.2.1 F.size,zkeep F _ _ h.2.2.1,h.2.2.2.1.below F,h.2.2.2.2.1.below F,h.2.2.2.2.2⟩
theorem qlH (B p5 p8 g5 n c5:Nat) (d:List Int) (w:World) (hB:B<=w.heap.size) (hn:d.length=n) (aZ:n<=3) (hV:qcJ d) (aB:∀W,Below B w W->HasT W)
  (h5:w.heap[p5]? = some (.cells #[.slice (some ⟨g5,0,none⟩) n c5] 35 (0,0))) (h8:w.heap[p8]? = some (.cells #[.string (ftxt 1).1,.string (ftxt 1).2] 44 (0,0))) (hF:FRow w g5 n (told n (dq d))) :
  Calls prog 127 #[.pointer (some ⟨p8,0,none⟩),.pointer (some ⟨p5,0,none⟩)] w fun e w'=>∃y,e=.returned y/\Rws w' B 44 2 y (2 ^ n) (fflat ((termL 3 d).map ftxt))/\Below B w w':=by
 have aJ:∀k,Short (dq d k):=fun k=>(dq_cd hV k).short (by decide) (by decide +kernel) (by decide +kernel)
 have aI:∀k,k<=3->∀p∈prods d k,Short p:=fun k hk p hp=>(qeS (by decide) (dq_cd hV) k p hp).short (qbl (Nat.pow_pos (by decide))) (qaL (qa4 (by decide) hk) qkc) (qaL (qa4 (by decide) hk) qkc)
 have HS:=qH (qA aJ (qA aI hn));have aN:=qH aB;obtain⟨s1,s2,aa⟩:=qcd 1;rw [aa] at h8;have Hs:=qH aa;have c80:=qC w _ 0 _ _ _ h8;have aP:=qC w _ 1 _ _ _ h8;have HI:=qH (qA h5 hF);clear aJ aI hV hn aB h8 aa h5 hF;obtain⟨W1,aS,K1⟩:=nw1 w #[.string s1,.string s2] 44;have k5:=zkeep K1.o.1 _ _ HI.o.1;have I1:Hu (T3St w B p5 p8 g5 n c5 d (prods d 0) 1 (.slice (some ⟨w.heap.size,0,none⟩) 1 1) W1):=by
  refine qH ⟨K1.o.1.mono hB,qaj hB K1.o.1.size,k5,HI.o.2.below K1.o.1,?_,?_⟩
  ·rw [show (prods d 0).map ftxt=[(s1,s2)] by rw [<-Hs.o];rfl];exact qnz K1.o.2 hB
  ·intro e;have e2:w.heap.size=g5:=qah e;have:=(qG HI.o.2.1).1;omega
 have aO:=qC w _ 0 _ _ _ HI.o.1;have aY:=(qG HI.o.1).1;clear k5 K1;go_enter func127,ntmps127;go_wp2_with fail;clear aO c80 aP
 go_loopw [3,12] (fun x3 x12 W=>∃(k:Nat),x12=.int .i64 k/\k<=n/\Hu (T3St w B p5 p8 g5 n c5 d (prods d k) (2 ^ k) x3 W)) (fun _ x12 _=>n-(intOf x12).toNat)
 case atStart=>exact⟨0,rfl,qal _,aS▸I1⟩
 case round =>
  obtain⟨k,rfl,hk,K⟩:=hrel;obtain⟨M,hM⟩:=qX (2 ^ k);have aV:M<=8:=by rw [<-hM];exact qa4 (by decide) (show k<=3 by omega)
  have aR:0<M:=by rw [<-hM];exact Nat.pow_pos (by decide)
  have O:((prods d k).map ftxt).length=M:=by rw [qav,qeH];exact hM
  rw [hM] at K;obtain⟨ao,g6,cy,rfl,au,_⟩:=qd7 K.o.2.2.2.2.1 O;have aU:=au.addr (by omega);subst aU;have HM:=qH (qA hM (qA O au));clear hM O au
  by_cases az:k<n
  ·have aX:(k:Int)<n:=by omega
   obtain⟨d0,d1⟩:=(K.o.2.2.2.1.cells (qb0 _ _)).cell k (by rw [qb0];exact az);rw [qdr az,qaM] at d0 d1;obtain⟨v1,v2,hv⟩:=qcd (dq d k);rw [hv] at d0 d1;have HV:=qH hv;have bf:=qC wr _ 0 _ _ _ K.o.2.2.1;obtain⟨W2,aT,K2⟩:=nw1 wr #[.string v1,.string v2] 44;have aj:=(qG K2.o.2).1;have J0:Hu (T3St w B p5 p8 g5 n c5 d (half d k 0) (M+0) (.slice (some ⟨g6,0,none⟩) M cy) W2/\W2.heap[wr.heap.size]? = some (.cells #[.string v1,.string v2] 44 (0,0))/\FCells W2 (some ⟨g6,0,none⟩) g6 0 ((prods d k).map ftxt)/\(Value.slice (some ⟨g6,0,none⟩) M cy).ownBlock≠some wr.heap.size) :=
    qH ⟨by rw [qmu];exact K.o.below K2.o.1,K2.o.2,HM.o.2.2.below K2.o.1,fun e=>by
     have e2:g6=wr.heap.size:=qah e;have:=(K.o.2.2.2.2.1.lt g6 rfl).2;omega⟩
   clear hv aj K2;go_wp2_with fail;obtain⟨b5,aF⟩:∃b,wr.heap.size=b:=⟨_,rfl⟩;rw [aF] at J0 ⊢;clear aF
   go_loopw [3,18] (fun x3 x18 W=>∃(j:Nat),x18=.int .i64 j/\j<=M/\Hu (T3St w B p5 p8 g5 n c5 d (half d k j) (M+j) x3 W/\W.heap[b5]? = some (.cells #[.string v1,.string v2] 44 (0,0))/\FCells W (some ⟨g6,0,none⟩) g6 0 ((prods d k).map ftxt)/\x3.ownBlock≠some b5)) (fun _ x18 _=>M-(intOf x18).toNat)
   case atStart=>exact⟨0,rfl,qal _,aT▸J0⟩
   case round =>
    obtain⟨j,rfl,hj,J⟩:=hrel;obtain⟨ay,aQ,rfl⟩:=J.o.1.2.2.2.2.1.shape
    by_cases ax:j<M
    ·have aW:(j:Int)<M:=by omega
     obtain⟨q0,q1⟩:=J.o.2.2.1.cell j (by rw [HM.o.2.1];exact ax);have af:j<(prods d k).length:=by have:=HM.o.2.1;rw [qav] at this;omega
     have aH:((prods d k).map ftxt).getD j fd0=ftxt ((prods d k).getD j 0):=by
      rw [qaa,qaa,qay,qad af];rfl
     obtain⟨p,hp⟩:=qX ((prods d k).getD j 0);rw [aH,hp,qaM] at q0 q1;obtain⟨p1,p2,Z⟩:=qcd p;rw [Z] at q0 q1;have aA:p∈prods d k:=by rw [<-hp,qaa,qad af];exact List.getElem_mem af
     have ak:p*dq d k∈prods d (k+1):=by
      show _∈prods d k++_
      exact qaK.2 (qag (qbp.2 ⟨p,aA,rfl⟩))
     obtain⟨z1,z2,hz⟩:=qcd (p*dq d k);have V:=fun (W:World) (h:Below B w W)=>mulq (HS.o.2.1 k (by omega) p aA) (HS.o.1 k) (HS.o.2.1 (k+1) (by omega) _ ak) W (aN.o W h)
     rw [Z,HV.o,hz] at V;have aM:=qH V;have HP:=qH (qA hp hz);have r0:=qC wr _ 0 _ _ _ J.o.2.1;have r1:=qC wr _ 1 _ _ _ J.o.2.1;have aj:=(qG J.o.2.1).1;obtain⟨V1,aC,N1⟩:=nw1 wr #[.string p1,.string p2] 44;have J1:=qH (qA (J.o.1.below N1.o.1) (qA (zkeep N1.o.1 _ _ J.o.2.1) (qA (J.o.2.2.1.below N1.o.1) J.o.2.2.2)));clear af aH hp Z aA ak hz V N1;go_wp2_with fail;rw [<-aC];clear aC r0 r1 q0 q1;refine (aM.o V1 J1.o.1.1).mono ?_;rintro e w3 ⟨rfl,ae⟩;have J2:=qH (qA (J1.o.1.below ae) (qA (zkeep ae _ _ J1.o.2.1) (qA (J1.o.2.2.1.below ae) J1.o.2.2.2)));clear ae;go_wp2_with fail;refine (qcE z1 z2 w3).mono ?_;rintro e w4 ⟨rfl,av⟩;obtain⟨V2,aD,N2⟩:=nw1 w4 #[.string z1,.string z2] 44;have I:=av.trans (N2.o.1.mono av.size);have H:=qH (qA (J2.o.1.below I) (qA (zkeep I _ _ J2.o.2.1) (qA (J2.o.2.2.1.below I) J2.o.2.2.2)));obtain⟨y',w5,hr,ag,F⟩:=qfB (m:=1) (c:=1) 35 H.o.1.2.2.2.2.1 H.o.1.2.1 (qmb N2.o.2) rfl (by decide) (by omega);have U:((half d k j).map ftxt++[(z1,z2)]).length=M+j+1:=by
      have h1:=H.o.1.2.2.2.2.1.1;rw [qce] at h1;rw [qaf];show _+1=_;omega
     have Y:=FCells.appended H.o.2.2.1 (by rw [HM.o.2.1];exact aR) U ag ⟨(((prods d k).take j).map fun p=>p*dq d k).map ftxt,by unfold half;rw [qa3]⟩ F;obtain⟨r5,_⟩:=qcP H.o.1.2.2.1 (by rintro e;exact absurd (qfy H.o.1.2.2.2.2.1 H.o.1.2.2.1 e) (by decide)) F;obtain⟨rg,aL⟩:=qcP H.o.1.2.2.2.1.1 H.o.1.2.2.2.2.2 F;have aK:V2.heap.size<=w5.heap.size:=by rcases F with ⟨_,h⟩ | ⟨_,h⟩ <;> exact h.size
     have aG:=qdZ H.o.1.1 (fun k hk=>(H.o.1.2.2.2.2.1.lt k hk).1) H.o.1.2.1 F;obtain⟨ah,ai⟩:=qcP H.o.2.1 H.o.2.2.2 F;rw [show (z1,z2)=ftxt ((prods d k).getD j 0*dq d k) by rw [HP.o.1];exact HP.o.2.symm,<-List.map_singleton (f:=ftxt),<-qa3,<-qmt (by rw [HM.o.1];exact ax)] at ag;have J4:Hu (T3St w B p5 p8 g5 n c5 d (half d k (j+1)) (M+(j+1)) y' w5/\w5.heap[b5]? = some (.cells #[.string v1,.string v2] 44 (0,0))/\FCells w5 (some ⟨g6,0,none⟩) g6 0 ((prods d k).map ftxt)/\y'.ownBlock≠some b5) :=
      qH ⟨⟨aG,qaj H.o.1.2.1 aK,r5,⟨rg,H.o.1.2.2.2.1.2⟩,ag,aL⟩,ah,Y,ai⟩
     clear av I ag F U Y r5 rg aL aK aG ah ai N2;rw [aD] at hr;clear aD
     go_wp2_with ((with_reducible refine qdL rfl (.tmp 22) (.tmp 29) 35 rfl ?_ ?_ hr ?_);(next=>rfl);(next=>rfl))
     go_roundw
     case rel=>exact⟨j+1,by go_num,ax,J4⟩
     case measure=>simp [intOf];omega
    ·obtain rfl:j=M:=by omega
     have J1:Hu (T3St w B p5 p8 g5 n c5 d (prods d (k+1)) (2 ^ (k+1)) (.slice ay (j+j) aQ) wr):=qH (by
      have h:=J.o.1;rw [show half d k j=prods d (k+1) by rw [<-HM.o.1];exact half_all d k] at h;rw [show 2 ^ (k+1)=j+j by rw [qaB,HM.o.1];omega];exact h)
     go_wp2;go_roundw
     case rel=>exact⟨k+1,by go_num,az,J1⟩
     case measure=>simp [intOf];omega
  ·obtain rfl:k=n:=by omega
   go_wp2;go_ret;exact⟨_,rfl,by rw [qhc,HS.o.2.2,HM.o.1];exact K.o.2.2.2.2.1,K.o.1⟩
end Go.Proofs.YtplkdeknjghobaaGreatDoor
namespace Go.Proofs.YtplkdeknjghobaaGreatDoor.p4
def mval:List Nat->Nat
 | []=>0
 | d :: l=>d+10000*mval l
theorem qcz (l r:List Nat):mval (l++r)=mval l+10000 ^ l.length*mval r:=by
 induction l with
 | nil=>simp [mval]
 | cons d l ih =>
  simp only [List.cons_append,mval,ih,qbM,qaB];rw [qaZ,qat (10000 ^ l.length) 10000,qaw];omega
theorem qfO (l:List Nat) (h:∀d∈l,d<10000):mval l<10000 ^ l.length:=by
 induction l with
 | nil=>simp [mval]
 | cons d l ih =>
  have F:=h d qbS;have H:=ih fun x hx=>h x (qbK _ hx)
  simp only [mval,qbM,qaB];omega
theorem qeQ (n:Nat):mval (List.replicate n 0)=0:=by
 induction n with
 | zero=>rfl
 | succ n ih=>simp [qbn,mval,ih]
theorem qcW (l:List Nat) (d:Nat):mval (l++[d])=mval l+10000 ^ l.length*d:=by
 rw [qcz];simp [mval]
theorem qh0 (l:List Nat) (i d:Nat) (h:i<l.length):mval (l.set i d)+10000 ^ i*l[i]=mval l+10000 ^ i*d:=by
 induction l generalizing i with
 | nil=>exact absurd h (by simp)
 | cons x l ih =>
  cases i with
  | zero=>simp [mval];omega
  | succ i =>
   have F:i<l.length:=by simpa using h
   have:=ih i F;simp only [List.set_cons_succ,mval,List.getElem_cons_succ,qaB];have H:10000 ^ i*10000*l[i]=10000*(10000 ^ i*l[i]):=by rw [qat (10000 ^ i),qaw]
   have I:10000 ^ i*10000*d=10000*(10000 ^ i*d):=by rw [qat (10000 ^ i),qaw]
   omega
def Dig (L:List Nat):Prop:=∀k,L.getD k 0<10000
theorem Dig.mem {L:List Nat} (h:Dig L):∀d∈L,d<10000:=fun d F=>by
 obtain⟨i,H,rfl⟩:=List.getElem_of_mem F;have:=h i
 rwa [qaa,qad H] at this
theorem Dig.of {L:List Nat} (h:∀d∈L,d<10000):Dig L:=fun k=>by
 rw [qaa];cases hk:L[k]? with
 | none=>exact (by decide:0<10000)
 | some x=>exact h x (List.mem_of_getElem? hk)
theorem Dig.nil:Dig []:=Dig.of (by simp)
theorem Dig.snoc {L:List Nat} (h:Dig L) {d:Nat} (F:d<10000):Dig (L++[d]):=Dig.of fun x hx=>by
 rcases qaK.1 hx with hx | hx
 ·exact h.mem x hx
 ·rw [qap.1 hx];exact F
theorem Dig.set {L:List Nat} (h:Dig L) {d:Nat} (F:d<10000) (i:Nat):Dig (L.set i d):=Dig.of fun x hx=>by
 rcases List.mem_or_eq_of_mem_set hx with hx | rfl
 ·exact h.mem x hx
 ·exact F
theorem Dig.take {L:List Nat} (h:Dig L) (n:Nat):Dig (L.take n):=Dig.of fun x hx=>h.mem x (qbL hx)
theorem Dig.drop {L:List Nat} (h:Dig L) (n:Nat):Dig (L.drop n):=Dig.of fun x hx=>h.mem x (List.mem_of_mem_drop hx)
theorem Dig.append {L M:List Nat} (h:Dig L) (F:Dig M):Dig (L++M):=Dig.of fun x hx=>(qaK.1 hx).elim (h.mem x) (F.mem x)
theorem Dig.zeros (n:Nat):Dig (List.replicate n 0):=Dig.of fun x hx=>by rw [(List.mem_replicate.1 hx).2];decide
theorem Dig.lt {L:List Nat} (h:Dig L):mval L<10000 ^ L.length:=qfO L h.mem
theorem qdO {L:List Nat} {k:Nat} (h:k<L.length):L[k]? = some (L.getD k 0):=by
 rw [qad h,qaa,qad h];rfl
theorem qdA {L:List Nat} {k:Nat} (h:L.length<=k):L.getD k 0=0:=by
 rw [qaa,qaS h];rfl
theorem qbY (L:List Nat) (k:Nat):mval (L.take (k+1))=mval (L.take k)+10000 ^ k*L.getD k 0:=by
 by_cases h:k<L.length
 ·rw [List.take_add_one,qdO h]
  show mval (L.take k++[L.getD k 0])=_
  rw [qcW,qax,qa9 (qar h)]
 ·rw [qak (by omega),qak (by omega),qdA (by omega)];simp
theorem qcV (L:List Nat) (k:Nat):mval (L.drop k)=L.getD k 0+10000*mval (L.drop (k+1)):=by
 by_cases h:k<L.length
 ·rw [qby h];simp only [mval];rw [qaa,qad h];rfl
 ·rw [qaT (by omega),qaT (by omega),qdA (by omega)];simp [mval]
theorem qd2 (L:List Nat) (k:Nat) (F:k<=L.length):mval L=mval (L.take k)+10000 ^ k*mval (L.drop k):=by
 conv=>lhs;rw [<-List.take_append_drop k L]
 rw [qcz,qax,qa9 F]
theorem getD_set_ne {L:List Nat} {i j d:Nat} (h:i≠j):(L.set i d).getD j 0=L.getD j 0:=by
 rw [qaa,List.getElem?_set_ne h,<-qaa]
theorem qcT {L:List Nat} {i d:Nat} (h:i<L.length):(L.set i d).getD i 0=d:=by
 rw [qaa,List.getElem?_set_self h];rfl
theorem qc3 {L:List Nat} {k d:Nat} (h:k<L.length):mval ((L.set k d).take (k+1))=mval (L.take k)+10000 ^ k*d:=by
 rw [qbY,qcT h]
 congr 2
 rw [List.take_set_of_le qN]
theorem qdj {L:List Nat} {k d:Nat} (h:k<L.length):mval ((L.set k d).drop k)=d+10000*mval (L.drop (k+1)):=by
 rw [qcV,qcT h,List.drop_set_of_lt (by omega)]
theorem qeF {L:List Nat} {k d:Nat} (h:k<L.length):mval (L.set k d)+10000 ^ k*L.getD k 0=mval L+10000 ^ k*d:=by
 have:=qh0 L k d h
 rwa [qaa,qad h]
def Zero (L:List Nat) (n:Nat):Prop:=∀k,n<=k->L.getD k 0=0
theorem Zero.all (L:List Nat):Zero L L.length:=fun _ h=>qdA h
theorem Zero.mono {L:List Nat} {n m:Nat} (h:Zero L n) (H:n<=m):Zero L m:=fun k F=>h k (by omega)
theorem Zero.zeros (n m:Nat):Zero (List.replicate n 0) m:=fun k _=>by
 by_cases h:k<n
 ·rw [qaa,qbc,if_pos h];rfl
 ·exact qdA (by rw [qaO];omega)
theorem Zero.set {L:List Nat} {n k d:Nat} (h:Zero L n) (H:k<n):Zero (L.set k d) n:=fun j F=>by rw [getD_set_ne (by omega)];exact h j F
theorem Zero.set_succ {L:List Nat} {n d:Nat} (h:Zero L n):Zero (L.set n d) (n+1):=fun j F=>by rw [getD_set_ne (by omega)];exact h j (by omega)
theorem Zero.down {L:List Nat} {n:Nat} (h:Zero L (n+1)) (F:L.getD n 0=0):Zero L n:=fun k H=>by
 by_cases e:k=n
 ·rw [e];exact F
 ·exact h k (by omega)
theorem qdv {L:List Nat} {n:Nat} (h:Zero L n):mval (L.drop n)=0:=by
 induction hm:L.length-n generalizing n with
 | zero=>rw [qaT (by omega)];rfl
 | succ m ih =>
  rw [qcV,h n qN,ih (h.mono (by omega)) (by omega)]
theorem qcy {L:List Nat} {n:Nat} (h:Zero L n):mval (L.take n)=mval L:=by
 by_cases F:n<=L.length
 ·rw [qd2 L n F,qdv h];omega
 ·rw [qak (by omega)]
def Nrm (L:List Nat):Prop:=L.length=0\/L.getD (L.length-1) 0≠0
theorem Nrm.ge {L:List Nat} (h:Nrm L) (H:0<L.length):10000 ^ (L.length-1)<=mval L:=by
 have F:=h.resolve_left (by omega);have e:=qbY L (L.length-1);rw [show L.length-1+1=L.length by omega,qbh] at e;rw [e];exact qaj (Nat.le_mul_of_pos_right _ (qbe F)) (Nat.le_add_left _ _)
theorem Nrm.snoc (L:List Nat) {d:Nat} (h:d≠0):Nrm (L++[d]):=by
 right
 rw [qaf,qaz,Nat.add_sub_cancel,qaa,qaq qN,qaG];exact h
theorem Nrm.zero {L:List Nat} (h:Nrm L):mval L=0↔L.length=0:=by
 constructor
 ·intro e;rcases qaU L.length with h0 | h0
  ·exact h0
  ·have:=h.ge h0;have:=Nat.pow_pos (n:=L.length-1) (show 0<10000 by decide);omega
 ·intro e;rw [qbI.1 e];rfl
theorem Nrm.len {L:List Nat} (h:Nrm L) {n:Nat} (H:mval L<10000 ^ n):L.length<=n:=by
 rcases qaU L.length with h0 | h0
 ·omega
 ·have F:=h.ge h0;have I:=(Nat.pow_lt_pow_iff_right (show 1<10000 by decide)).1 (qaL F H);omega
theorem qgn {P B x y z s c c' m o:Nat} (I:x+P*c=y+z) (F:s+B*c'=m+c+o):x+P*s+P*B*c'=y+P*m+(z+P*o):=by
 have h:=congrArg (P * ·) F;simp only [qaZ] at h;have H:P*B*c'=P*(B*c'):=by simp only [qaw]
 omega
theorem qfu {P B x y z s b F m o:Nat} (J:x+z=y+P*b) (H:s+b+o=m+B*F):x+P*s+(z+P*o)=y+P*m+P*B*F:=by
 have h:=congrArg (P * ·) H;simp only [qaZ] at h;have I:P*B*F=P*(B*F):=by simp only [qaw]
 omega
theorem qhe {A C B x p s c c' d e X Y Z: Nat} (J:Y+A*C*p=x+A*C*s) (O:x+A*C*c=X+A*d*Z) (F:s+B*c'=c+(p+d*e)):Y+A*(C*B)*c'=X+A*d*(Z+C*e):=by
 have h:=congrArg (A*C * ·) F;simp only [qaZ] at h ⊢;have H:A*(C*B)*c'=A*C*(B*c'):=by simp only [qaw]
 have I:A*d*(C*e)=A*C*(d*e):=by simp only [qaw,qbr]
 omega
theorem qh3 {A F E H x c d d1 X Y Z:Nat} (I:Y+E*0=x+E*c) (J:x+E*c=X*Z+A*d*Z):Y+H*0=(X+A*d)*Z+F*d1*mval []:=by
 simp only [mval,Nat.mul_zero,qbs,qaE] at *;omega
theorem qg4 {B R d r m M q t:Nat} (F:R*d+r=M) (O:d*q+t=r*B+m):(q+B*R)*d+t=m+B*M:=by
 subst F;simp only [qaZ,qaE];have H:B*R*d=B*(R*d):=by simp only [qaw]
 have I:q*d=d*q:=qat _ _;have J:r*B=B*r:=qat _ _;omega
structure PlusInv (m o:List Nat) (k:Nat) (L:List Nat) (c:Nat):Prop where
 len:L.length=k
 dig:Dig L
 carry:c<=1
 val:mval L+10000 ^ k*c=mval (m.take k)+mval (o.take k)
theorem PlusInv.start (m o:List Nat):PlusInv m o 0 [] 0:=⟨rfl,Dig.nil,by decide,by simp [mval]⟩
theorem PlusInv.step {m o L:List Nat} {k c s c':Nat} (h:PlusInv m o k L c) (H:s<10000) (F:c'<=1) (e:s+10000*c'=m.getD k 0+c+o.getD k 0):PlusInv m o (k+1) (L++[s]) c':=by
 refine⟨by rw [qaf,h.len];rfl,h.dig.snoc H,F,?_⟩;have I:=h.val;rw [qcW,h.len,qbY,qbY,qaB];exact qgn I e
theorem PlusInv.done {m o L:List Nat} {c:Nat} (h:PlusInv m o m.length L c) (F:o.length<=m.length):mval L+10000 ^ m.length*c=mval m+mval o:=by
 have:=h.val
 rwa [qak qN,qak F] at this
structure MinusInv (m o:List Nat) (k:Nat) (R:List Nat) (b:Nat):Prop where
 len:R.length=m.length
 dig:Dig R
 carry:b<=1
 val:mval (R.take k)+mval (o.take k)=mval (m.take k)+10000 ^ k*b
theorem MinusInv.start (m o:List Nat):MinusInv m o 0 (List.replicate m.length 0) 0:=⟨by simp,Dig.zeros _,by decide,by simp [mval]⟩
theorem MinusInv.step {m o R:List Nat} {k b s F:Nat} (h:MinusInv m o k R b) (I:k<m.length) (J:s<10000) (H:F<=1) (e:s+b+o.getD k 0=m.getD k 0+10000*F):MinusInv m o (k+1) (R.set k s) F:=by
 refine⟨by rw [qa6,h.len],h.dig.set J _,H,?_⟩;have O:=h.val;rw [qc3 (by rw [h.len];exact I),qbY,qbY,qaB];exact qfu O e
theorem MinusInv.done {m o R:List Nat} {b:Nat} (h:MinusInv m o m.length R b) (I:o.length<=m.length) (H:mval o<=mval m):mval R=mval m-mval o:=by
 have J:=h.val;rw [qak qN,qak I,qak (by rw [h.len];exact qae _)] at J;have F:=h.dig.lt;rw [h.len] at F;have O:=h.carry;rcases (show b=0\/b=1 by omega) with rfl | rfl
 ·omega
 ·omega
structure TimesInv (m o:List Nat) (i j:Nat) (P:List Nat) (c:Nat):Prop where
 len:P.length=m.length+o.length
 dig:Dig P
 carry:c<10000
 zero:Zero P (i+o.length)
 val:mval P+10000 ^ (i+j)*c=mval (m.take i)*mval o+10000 ^ i*m.getD i 0*mval (o.take j)
theorem TimesInv.start (m o:List Nat):TimesInv m o 0 0 (List.replicate (m.length+o.length) 0) 0:=⟨by simp,Dig.zeros _,by decide,Zero.zeros _ _,by simp [mval,qeQ]⟩
theorem TimesInv.step {m o P:List Nat} {i j c s c':Nat} (h:TimesInv m o i j P c) (J:i<m.length) (O:j<o.length) (F:s<10000) (I:c'<10000) (e:s+10000*c'=c+(P.getD (i+j) 0+m.getD i 0*o.getD j 0)):TimesInv m o i (j+1) (P.set (i+j) s) c':=by
 refine⟨by rw [qa6,h.len],h.dig.set F _,I,h.zero.set (by omega),?_⟩;have H:=h.val;have F:=qeF (L:=P) (k:=i+j) (d:=s) (by rw [h.len];omega);rw [qbY,Nat.pow_add,qaB];rw [Nat.pow_add] at F H;exact qhe F H e
theorem TimesInv.next {m o P:List Nat} {i c:Nat} (h:TimesInv m o i o.length P c) (I:i<m.length):TimesInv m o (i+1) 0 (P.set (i+o.length) c) 0:=by
 refine⟨by rw [qa6,h.len],h.dig.set h.carry _,by decide,?_,?_⟩
 ·have:=h.zero.set_succ (d:=c)
  rwa [show i+o.length+1=i+1+o.length by omega] at this
 have H:=h.val;have F:=qeF (L:=P) (k:=i+o.length) (d:=c) (by rw [h.len];omega);rw [h.zero _ qN] at F;rw [qak qN] at H;rw [qbY,List.take_zero];exact qh3 F H
theorem TimesInv.done {m o P:List Nat} {c:Nat} (h:TimesInv m o m.length 0 P c) (H:c=0):mval P=mval m*mval o:=by
 have F:=h.val;subst H;rw [qak qN] at F
 simpa [mval] using F
structure ShortInv (m:List Nat) (d k:Nat) (R:List Nat) (r:Nat):Prop where
 len:R.length=m.length
 dig:Dig R
 rest:r<d
 val:mval (R.drop k)*d+r=mval (m.drop k)
theorem ShortInv.start (m:List Nat) {d:Nat} (F:0<d):ShortInv m d m.length (List.replicate m.length 0) 0:=⟨by simp,Dig.zeros _,F,by rw [qaT (by simp),qaT (by simp)];simp [mval]⟩
theorem ShortInv.step {m R:List Nat} {d k r:Nat} (h:ShortInv m d (k+1) R r) (H:k<m.length) (I:Dig m):ShortInv m d k (R.set k ((r*10000+m.getD k 0) / d)) ((r*10000+m.getD k 0) % d):=by
 have F:0<d:=by have:=h.rest;omega
 have J:(r*10000+m.getD k 0) / d<10000:=by
  rw [qbE F];have O:=I k;have U:=h.rest;have:(r+1)*10000<=d*10000:=qaH _ (by omega);omega
 refine⟨by rw [qa6,h.len],h.dig.set J _,qbD _ F,?_⟩;rw [qdj (by rw [h.len];exact H),qcV m k,<-h.val];have:=Nat.div_add_mod (r*10000+m.getD k 0) d;exact qg4 rfl this
theorem ShortInv.done {m R:List Nat} {d r:Nat} (h:ShortInv m d 0 R r):mval R=mval m / d/\r=mval m % d:=by
 have H:=h.val;simp only [List.drop_zero] at H;have F:=h.rest;rw [<-H]
 constructor
 ·rw [qat,Nat.mul_add_div (by omega),Nat.div_eq_of_lt F];rfl
 ·rw [qat,Nat.mul_add_mod,Nat.mod_eq_of_lt F]
