import Derived.Maps.Own
import Derived.Maps.OwnOps
import Derived.Maps.Views
import Derived.Test.YtplkdeknjghobaaGreatDoorBx17
set_option maxRecDepth 100000
set_option maxHeartbeats 0
namespace Go.Proofs.YtplkdeknjghobaaGreatDoor
open Go.RowKit Go.Maps
def rawR (v:Value):Option (DataW Value×List MemPlace):=some (.held v,[])
def MapAt (W:World) (P:Program) (k:TypeId) (b n:Nat) (z:Value) (f:Lit->Value):Prop :=
 ∃D,W.ownsMap P k rawR b n D/\IsMap D/\∀F,WideAt.IsKeyLit F->D.atKey F (.held z)=.held (f F)
theorem MapAt.made (w:World) (P:Program) (k:TypeId) (z:Value):MapAt (w.alloc (.map #[] 0)) P k w.heap.size 0 z fun _=>z :=
 ⟨_,World.ownsMap_made _ _ _ _,isMap_empty,fun _ _=>rfl⟩
theorem MapAt.lt {W:World} {P:Program} {k:TypeId} {b n:Nat} {z:Value} {f:Lit->Value} (h:MapAt W P k b n z f):b<W.heap.size:=by
 obtain⟨D,h,_⟩:=h;exact h.lt
theorem MapAt.kept {W W':World} {P:Program} {k:TypeId} {b n:Nat} {z:Value} {f:Lit->Value} {row:Option Nat} (h:MapAt W P k b n z f) (hg:W.grownBy W' row) (hne:some b≠row):MapAt W' P k b n z f:=by
 obtain⟨D,h,F,G⟩:=h;exact⟨D,h.kept hg hne,F,G⟩
theorem MapAt.below {W W':World} {P:Program} {k:TypeId} {b n:Nat} {z:Value} {f:Lit->Value} (h:MapAt W P k b n z f) (F:Below W.heap.size W W'):MapAt W' P k b n z f :=
 h.kept (row:=none) ⟨F.os,F.tape,F.output,F.size,fun i G _=>F.block i G⟩ (by simp)
theorem MapAt.congr {W:World} {P:Program} {k:TypeId} {b n:Nat} {z:Value} {f g:Lit->Value} (h:MapAt W P k b n z f) (e:∀F,WideAt.IsKeyLit F->f F=g F):MapAt W P k b n z g:=by
 obtain⟨D,h,H,I⟩:=h;exact⟨D,h,H,fun F G=>by rw [I F G,e F G]⟩
theorem MapAt.look {W:World} {P:Program} {k t e:TypeId} {b n:Nat} {z:Value} {f:Lit->Value} (h:MapAt W P k b n z f) (K:Keyed P k) (O:P.underlying t=some (.map k e)) (U:(zeroValue e).run P W=.ok z W) {key:Value} {H:Lit} (F:keyOf P k key=some H) :
  (Instr.lookup t (.map (some b)) key false).run P W=.ok (f H) W:=by
 obtain⟨D,h,_,I⟩:=h;obtain⟨v,ps,J,G⟩:=h.lookup K O U (zd:=.held z) (zp:=[]) rfl F;rw [I H (K.key F)] at G;unfold rawR at G;simp only [Option.some.injEq,Prod.mk.injEq,DataW.held.injEq] at G;rw [<-G.1];exact J
theorem MapAt.store {W:World} {P:Program} {k t e:TypeId} {b n:Nat} {z:Value} {f:Lit->Value} (h:MapAt W P k b n z f) (K:Keyed P k) (ht:P.underlying t=some (.map k e)) (Z:n<maxLen) {H:Value} {J:Lit} (F:keyOf P k H=some J) (val:Value) :
  ∃W',(Instr.mapUpdate t (.map (some b)) H val).run P W=.ok () W'/\(∀I:Lit->Value,I J=val->(∀x,x≠J->I x=f x)->MapAt W' P k b (n+1) z I)/\W.grownBy W' (some b):=by
 obtain⟨D,h,O,Y⟩:=h;obtain⟨W',hr,G,hg⟩:=h.update K ht Z F (show rawR val=some (.held val,[]) from rfl);refine⟨W',hr,fun I U V=>⟨_,G,O.put _ _,fun x hx=>?_⟩,hg⟩
 by_cases e:x=J
 ·subst e;rw [U];exact atKey_put_same O hx _ _
 ·rw [V x e,atKey_put_other e];exact Y x hx
end Go.Proofs.YtplkdeknjghobaaGreatDoor
namespace Go.Proofs.YtplkdeknjghobaaGreatDoor
open Go Go.RowKit
instance stays_int {v:Value} {z:Int}:Stays fun W=>IntAt W v z:=⟨fun h F=>h.below F⟩
instance stays_mag {v:Value} {x:Nat}:Stays fun W=>MagAt W v x:=⟨fun h F=>h.below F⟩
instance stays_rat {v:Value} {q:Rat}:Stays fun W=>RatV W v q:=⟨fun h F=>h.below F⟩
instance stays_fc {F:Option Addr} {b off:Nat} {l:List FT}:Stays fun W=>FCells W F b off l:=⟨fun h G=>h.below G⟩
instance stays_nc {F:Option Addr} {b off:Nat} {l:List Int}:Stays fun W=>NCells W F b off l:=⟨fun h G=>h.below G⟩
instance stays_pc {F:Option Addr} {b off:Nat} {l:List Pt}:Stays fun W=>PCells W F b off l:=⟨fun h G=>h.below G⟩
instance stays_rws {B F:Nat} {e:TypeId} {v:Value} {n:Nat} {H:List Value}:Stays fun W=>Rws W B e F v n H:=⟨fun h G=>h.below G⟩
instance stays_tab:Stays fun W=>HasT W:=⟨fun h F=>h.below F⟩
instance stays_md {v:Value} {m:Md}:Stays fun W=>MdAt W v m:=⟨fun h F=>h.below F⟩
open Tryz
theorem qb6 (q:Rat):∃s t,ftxt q=(s,t):=⟨_,_,rfl⟩
theorem mulq {p q:Rat} (H:Short p) (sq:Short q) (I:Short (p*q)) (w:World) (hT:HasT w) :
  Calls prog 26 #[.agg #[.string (ftxt p).1,.string (ftxt p).2],.agg #[.string (ftxt q).1,.string (ftxt q).2]] w fun e F=>e=.returned (.tuple #[.agg #[.string (ftxt (p*q)).1,.string (ftxt (p*q)).2],.int .i64 0])/\Below w.heap.size w F:=by
 refine (fmul_any _ _ _ _ w hT).mono ?_;rintro e F ⟨⟨_,h⟩ | ⟨h,_⟩,G⟩
 ·rw [qcV,qcV] at h;rcases h with ⟨_,h⟩ | ⟨h,_⟩
  ·exact⟨h,G⟩
  ·exact absurd I h
 ·exact absurd ⟨qdz H,qdz sq⟩ h
theorem qmm {z d:Int} (H:0<d) (G:z.natAbs<1000000000000000000000) (F:d.natAbs<1000000000000000000000):Valid (qcc z).data.toList/\Valid (qcc d).data.toList/\Fit z.natAbs 3/\Fit d.natAbs 3/\0<d.natAbs :=
 ⟨qfM (qai G (by decide +kernel)),qfM (qai F (by decide +kernel)),qev (by omega),qev (by omega),by omega⟩
theorem qdu {z d:Int} (G:0<d) (H:z.natAbs<1000000000000000000000) (F:d.natAbs<1000000000000000000000):Short ((z:Rat) / (d:Rat)) :=
 qdf (qfY (N:=1000000000000000000000) (by omega) (by omega) (by omega) rfl) (by decide +kernel)
theorem quo_mk {z d:Int} (F:0<d):mkRat z d.natAbs=(z:Rat) / (d:Rat):=by
 rw [<-Rat.divInt_ofNat,Rat.divInt_eq_div];have:((d.natAbs:Int):Rat)=(d:Rat):=by rw [Int.natAbs_of_nonneg (by omega)]
 rw [<-this]
theorem quo_fit {z d:Int} (G:0<d) (H:z.natAbs<1000000000000000000000) (F:d.natAbs<1000000000000000000000):RFit ((z:Rat) / (d:Rat)) 3:=by
 have h:Rb ((z:Rat) / (d:Rat)) 1000000000000000000000:=qfY (by omega) (by omega) (by omega) rfl;exact⟨qev (qaL h.1 (by decide)),qev (qaL h.2 (by decide))⟩
theorem qjh {s:ByteArray} (h:Valid s.data.toList) (w:World):Calls prog 146 #[.string s] w fun e F=>e=.returned (.int .i64 0)/\Below w.heap.size w F:=by
 refine (qeT s w).mono ?_;rintro e F ⟨c,rfl,⟨rfl,_⟩ | ⟨_,H⟩,G⟩
 ·exact⟨rfl,G⟩
 ·exact absurd h H
theorem make_int (z d:Int) (hd:0<d) (hz:z.natAbs<1000000000000000000000) (O:d.natAbs<1000000000000000000000) (w:World) (hP:HasT w) :
  Calls prog 79 #[.string (qcc z),.string (qcc d)] w fun e w'=>e=.returned (.tuple #[fstr ((z:Rat) / (d:Rat)),.int .i64 0])/\Below w.heap.size w w':=by
 obtain⟨va,vb,fa,fb,h0⟩:=qmm hd hz O;have aA:=qdu hd hz O;have V:=quo_fit hd hz O;have ax:=quo_mk (z:=z) hd;have ae:=qjj z;have af:=qjj d;obtain⟨sa,ay⟩:∃s,qcc z=s:=⟨_,rfl⟩;obtain⟨sb,az⟩:∃s,qcc d=s:=⟨_,rfl⟩;rw [ay] at va ae ⊢;rw [az] at vb af ⊢;have HV:=qH (qA va (qA vb (qA ae af)));have U:=qH (qA fa (qA fb (qA h0 (qA aA (qA V (qA ax hP))))));have Hd:=qH hd;clear ay az va vb fa fb h0 aA V ax ae af hP hd hz O;obtain⟨W1,ah,K1⟩:=nw1 w #[.string ⟨#[]⟩,.string ⟨#[]⟩] 44;have aH:=qH (qjh HV.o.1 W1);go_enter func79,ntmps79;go_wp2_with fail;rw [<-ah];clear ah;refine aH.o.mono ?_;rintro e w2 ⟨rfl,F⟩;have K2:=K1.below F;clear F;have aI:=qH (qjh HV.o.2.1 w2);go_wp2_with fail;refine aI.o.mono ?_;rintro e w3 ⟨rfl,F⟩;have K3:=K2.below F;clear F;have HN:=qH ((qch .f) sa HV.o.1 w3);go_wp2_with fail;refine HN.o.mono ?_;rintro e w4 ⟨v4,rfl,F,aD⟩;have K4:=K3.on (q:=fun W=>IntAt W v4 z) F (by rw [<-HV.o.2.2.1];exact aD);clear F aD;have aJ:=qH ((qch .f) sb HV.o.2.1 w4);obtain⟨a4,n4,c4,b4,rfl⟩:=qbR K4.o.2;go_wp2_with fail;refine aJ.o.mono ?_;rintro e w5 ⟨v5,rfl,F,aF⟩;have K5:=K4.on (q:=fun W=>IntAt W v5 d) F (by rw [<-HV.o.2.2.2];exact aF);clear F aF;obtain⟨a5,n5,c5,b5,rfl⟩:=qbR K5.o.2;have aL:b5=false:=by
  obtain⟨m,e,_⟩:=K5.o.2;simp only [qaV,qa3,qaU,qbO] at e;rw [e.2.1];exact qU (by have:=Hd.o;omega)
 subst aL;have aj:(if b4=true then -(z.natAbs:Int) else (z.natAbs:Int))=z:=by
  obtain⟨m,e,_⟩:=K4.o.2;simp only [qaV,qa3,qaU,qbO] at e;rw [e.2.1]
  by_cases h:z<0
  ·rw [if_pos (by simpa using h)];omega
  ·rw [if_neg (by simpa using h)];omega
 have ak:MagAt w5 (.slice a4 n4 c4) z.natAbs:=by
  obtain⟨m,e,hm⟩:=K5.o.1.2;simp only [qaV,qa3,qaU] at e;rw [e.1];exact hm
 have av:MagAt w5 (.slice a5 n5 c5) d.natAbs:=by
  obtain⟨m,e,hm⟩:=K5.o.2;simp only [qaV,qa3,qaU] at e;rw [e.1];exact hm
 obtain⟨W6,ai,H⟩:=nw2 w5 #[.slice a4 n4 c4,.bool b4] 136 #[.slice a5 n5 c5,.bool false] 136;have HM:=qH (qA ak (qA av aj));have K7:=K5.below H.o.1;have aG:decide (d.natAbs=0)=false:=qU (by have:=U.o.2.2.1;omega);have HZ:=qH ((qcq .f) d.natAbs _ W6 (HM.o.2.1.below H.o.1));rw [aG] at HZ;have aK:=qC W6 _ 0 _ _ _ H.o.2.2;have aQ:w.heap.size<w5.heap.size:=(qG K5.o.1.1.2).1;clear aj ak av aG;go_wp2_with fail;rw [<-ai];clear ai;refine HZ.o.mono ?_;rintro e w7 ⟨rfl,hw⟩;have hw:=hw.symm;subst hw;clear aK;have aM:=rowG (g0:=w.heap.size) H.o.2.1 0;have aN:=rowG (g0:=w.heap.size) H.o.2.1 1;have aO:=rowG (g0:=w.heap.size) H.o.2.2 0;have aP:=rowG (g0:=w.heap.size) H.o.2.2 1;go_wp2_with fail;refine wp_region_held_drew (S:=fun W=>W6.grownBy W (some w.heap.size)) (by kernel_rfl) (keepB qB.drew) (fun hS0=>?_);refine hT 0 (h:=hT 1 (h:=hT 2 (h:=hT 3 (h:=hT 4 (h:=hT 5 (h:=hT 6 (h:=hT 8 (h:=hT 9 (h:=?_)))))))));refine hC 7 (f:=95) ((qb3 .f) z.natAbs b4 _ _ ((HM.o.1.below H.o.1).below qB.drew)) (h:=?_);rintro e w7 ⟨u,rfl,G,hu⟩;rw [HM.o.2.2] at hu;obtain⟨au,nu,cu,bu,rfl⟩:=qbR hu;have K8:=K7.below (qb2 G);refine⟨_,rfl,qkg G,hN (h:=?_)⟩;refine hC 10 (qjO z d.natAbs 3 (by decide) _ _ w7 hu ((HM.o.2.1.below H.o.1).below (qb2 G)) U.o.1 U.o.2.1 U.o.2.2.1) (h:=?_);rintro e w8 ⟨r,rfl,Z,hr⟩;rw [U.o.2.2.2.2.2.1] at hr;obtain⟨ar,nr,cr,br,er,fr,gr,rfl⟩:=qcB hr;have Y:=qce (qkg (g:=w.heap.size) G) Z;have K9:=K8.below Z;refine⟨_,rfl,Y,hN (h:=?_)⟩;refine hC 11 (qeO _ 3 (by decide) (by decide) _ w8 hr U.o.2.2.2.2.1 (U.o.2.2.2.2.2.2.below K9.o.1.1.1)) (h:=?_);rintro e w9 ⟨h,aa⟩;rcases h with ⟨_,rfl⟩ | ⟨h,_⟩
 case inr=>exact absurd U.o.2.2.2.1 h
 have J:=qce Y aa;have I:=K9.below aa;unfold fstr;obtain⟨t1,aB⟩:∃t,qcc ((z:Rat) / (d:Rat)).num=t:=⟨_,rfl⟩;obtain⟨t2,aC⟩:∃t,num ((z:Rat) / (d:Rat)).den=t:=⟨_,rfl⟩;rw [aB,aC];refine⟨_,rfl,J,hN (h:=?_)⟩;refine hT 12 (h:=hT 13 (h:=?_));refine hSn 14 2 I.o.1.1.2 (h:=⟨qbX J (qci _ _ _),?_⟩);have ag:=qbX J (qci w9 w.heap.size #[.string t1,.string t2]);refine hT 15 (h:=?_);refine wpAnyH_done (by kernel_rfl) ?_ _;have HE:=qH (qA (qS I.o.1.1.1 qN #[.string t1,.string t2]) I.o.1.1.2);clear I K9 K8 K7 H ag J Y aa Z G hr hu;go_wp2_with fail;exact qR (v:=.tuple #[.agg #[.string t1,.string t2],.int .i64 0]) (rB_ rfl w.heap.size (qT _ _ _ _ _ _ HE.o.2) underlying44 2) rfl ⟨by rw [<-aB,<-aC];rfl,HE.o.1⟩
theorem of_int (z d:Int) (hd:0<d) (Y:-9223372036854775808<=z/\z<=9223372036854775807) (O:d<=9223372036854775807) (w:World) (I:HasT w) :
  Calls prog 23 #[.int .i64 z,.int .i64 d] w fun e w'=>e=.returned (.tuple #[.agg #[.string (ftxt ((z:Rat) / (d:Rat))).1,.string (ftxt ((z:Rat) / (d:Rat))).2],.int .i64 0])/\Below w.heap.size w w':=by
 obtain⟨t1,t2,U⟩:=qb6 ((z:Rat) / (d:Rat));rw [U];obtain⟨W1,J,K1⟩:=nw1 w #[.string ⟨#[]⟩,.string ⟨#[]⟩] 44;have HP:=qH I;have Z:=qH (qns z Y.1 Y.2 W1 (I.below K1.o.1));have HB:=qH (fun (W:World) (h:Below w.heap.size w W)=>qns d (by omega) O W (I.below h));have HM:=qH (fun (W:World) (h:Below w.heap.size w W)=>make_int z d hd (by omega) (by omega) W (I.below h));have HT:=qH U;obtain⟨sz,H⟩:∃s,qcc z=s:=⟨_,rfl⟩;obtain⟨sd,G⟩:∃s,qcc d=s:=⟨_,rfl⟩;rw [H] at Z;rw [G] at HB;rw [H,G,qfe,U] at HM;clear I U hd Y O H G;go_enter func23,ntmps23;go_wp2_with fail;rw [<-J];clear J;refine Z.o.mono ?_;rintro e w2 ⟨rfl,F⟩;have K2:=K1.below F;clear F;go_wp2_with fail;refine (HB.o w2 K2.o.1).mono ?_;rintro e w3 ⟨rfl,F⟩;have K3:=K2.below F;clear F;go_wp2_with fail;refine (HM.o w3 K3.o.1).mono ?_;rintro e w4 ⟨rfl,F⟩;have V:=K3.below F;clear F
 go_wp2_with ((with_reducible refine sR_ rfl 44 _ _ rfl (w.heap.size) #[.string t1,.string t2] V.o.2 2 ?_))
 exact qR (v:=.tuple #[.agg #[.string t1,.string t2],.int .i64 0]) (rB_ rfl w.heap.size (qT _ _ _ _ _ _ V.o.2) underlying44 2) rfl ⟨rfl,qS V.o.1 qN _⟩
def SaysT (w:World) (P:Prop) (e:Ending) (F:World):Prop:=∃b:Bool,e=.returned (.bool b)/\(b=true↔P)/\Below w.heap.size w F
theorem SaysT.yes {w F:World} {P:Prop} (h:P) (G:Below w.heap.size w F):SaysT w P (.returned (.bool true)) F:=⟨true,rfl,⟨fun _=>h,fun _=>rfl⟩,G⟩
theorem SaysT.no {w F:World} {P:Prop} (h:¬P) (G:Below w.heap.size w F):SaysT w P (.returned (.bool false)) F:=⟨false,rfl,⟨fun e=>(by cases e),fun k=>absurd k h⟩,G⟩
theorem qiS (c:UInt8):(c.toNat<45/\qdt c=false)\/(c.toNat=45/\qdt c=true)\/((45<c.toNat/\c.toNat<48)/\qdt c=false)\/((48<=c.toNat/\c.toNat<=57)/\qdt c=true)\/((57<c.toNat/\c.toNat<65)/\qdt c=false) \/
  ((65<=c.toNat/\c.toNat<=90)/\qdt c=true)\/((90<c.toNat/\c.toNat<95)/\qdt c=false)\/(c.toNat=95/\qdt c=true)\/(c.toNat=96/\qdt c=false)\/((97<=c.toNat/\c.toNat<=122)/\qdt c=true)\/(122<c.toNat/\qdt c=false):=by
 have F:qdt c=decide ((65<=c.toNat/\c.toNat<=90)\/(97<=c.toNat/\c.toNat<=122)\/(48<=c.toNat/\c.toNat<=57)\/c.toNat=45\/c.toNat=95):=by
  unfold qdt;rw [Bool.eq_iff_iff];simp only [Bool.or_eq_true,decide_eq_true_eq];omega
 rw [F];simp only [decide_eq_true_eq,decide_eq_false_iff_not];omega
theorem qmu (s:ByteArray) (w:World) (hs:s.size<=4611686018427387904) :
    Calls prog 195 #[.string s] w fun e w'=>SaysT w (qhf s) e w':=by
  by_cases Y:1<=s.size
  case neg =>
    have hi:(s.size:Int)<1:=by omega
    go_enter func195,ntmps195;go_wp2;go_ret;exact .no (fun h=>Y h.1) qB
  have ae:¬(s.size:Int)<1:=by omega
  by_cases Z:s.size<=12
  case neg =>
    have hi:(12:Int)<s.size:=by omega
    go_enter func195,ntmps195;go_wp2;go_ret;exact .no (fun h=>Z h.2.1) qB
  have af:¬(12:Int)<s.size:=by omega
  go_enter func195,ntmps195;go_wp2_with fail
  go_loop [16] (fun x16=>∃k:Nat,k<=s.size/\x16=.int .i64 k/\Hu (∀j (h:j<s.size),j<k->qdt s[j]=true)) (fun x16=>s.size-(intOf x16).toNat)
  case atStart=>exact⟨0,qam _,rfl,qH (fun j _ h=>absurd h (by omega))⟩
  case round =>
    obtain⟨k,hk,rfl,hJ⟩:=hrel
    by_cases I:k<s.size
    · have ah:(k:Int)<s.size:=by omega
      have O:=qiS s[k];have aa:s[k].toNat<256:=s[k].toNat_lt;rcases O with ⟨h,F⟩ | ⟨h,F⟩ | ⟨h,F⟩ | ⟨h,F⟩ | ⟨h,F⟩ | ⟨h,F⟩ | ⟨h,F⟩ | ⟨h,F⟩ | ⟨h,F⟩ | ⟨h,F⟩ | ⟨h,F⟩
      all_goals
        have V:=qH F;clear F;obtain⟨q1,G⟩:∃q,((s[k].toNat:Int) != 45)=q:=⟨_,rfl⟩;obtain⟨q2,H⟩:∃q,((s[k].toNat:Int) != 95)=q:=⟨_,rfl⟩;obtain rfl:q1=decide ((s[k].toNat:Int)≠45):=by rw [<-G,Bool.eq_iff_iff,bne_iff_ne,decide_eq_true_eq]
        obtain rfl:q2=decide ((s[k].toNat:Int)≠95):=by rw [<-H,Bool.eq_iff_iff,bne_iff_ne,decide_eq_true_eq]
        first | rw [qV (show ((s[k].toNat:Int)≠45) by omega)] at G | rw [qU (show ¬((s[k].toNat:Int)≠45) by omega)] at G
        first | rw [qV (show ((s[k].toNat:Int)≠95) by omega)] at H | rw [qU (show ¬((s[k].toNat:Int)≠95) by omega)] at H
        go_wp2_with fail
        all_goals first
          | (exfalso;omega)
          | (go_ret
             exact .no (fun hn=>by have:=hn.2.2 k I;rw [V.o] at this;cases this) qB)
          | (have U:qdt s[k]=true:=V.o
             go_round
             case rel=>exact⟨k+1,I,by go_num,qH (fun j J ag=>by
               rcases (show j<k\/j=k by omega) with h | h
               · exact hJ.o j J h
               · subst h;exact U)⟩
             case measure=>simp [intOf];omega)
          | (exfalso;omega)
          | (exfalso;rename_i hz;simp at hz;omega)
    · obtain rfl:k=s.size:=by omega
      go_wp2;go_ret;exact .yes ⟨Y,Z,fun j J=>hJ.o j J J⟩ qB
theorem qe1 (w:World) :
  Calls prog 196 #[.int .i64 0] w fun e F=>e=.returned (.tuple #[.int .i64 0,.int .i64 10000])/\w=F:=by
 go_enter func196,ntmps196;go_wp2_with fail
 go_ret2
 exact⟨rfl,rfl⟩
theorem qdm (i:Int) (h:i≠0) (w:World) :
  Calls prog 196 #[.int .i64 i] w fun e F=>e=.returned (.tuple #[.int .i64 (-12800),.int .i64 12700])/\w=F:=by
 have G:(i == 0)=false:=by simpa using h
 go_enter func196,ntmps196;go_wp2_with fail
 go_ret2
 exact⟨rfl,rfl⟩
def PtAt (W:World) (v:Value) (p:Pt):Prop:=∃(F:Option Addr) (rb G rc:Nat),v=.agg #[.string p.name,.slice F p.dev.length rc,.int .i64 p.l0,.int .i64 p.l1,.int .i64 p.l2]/\NCells W F rb G p.dev
def qiF (k:Nat):Int:=if k=0 then 0 else -12800
def qgt (k:Nat):Int:=if k=0 then 10000 else 12700
theorem qm6 (v:Value) (p:Pt) (w:World) (hv:PtAt w v p) (hs:p.name.size<=4611686018427387904) (hd:p.dev.length<=4611686018427387904) :
  Calls prog 124 #[v] w fun e w'=>SaysT w (PtOk p) e w':=by
 obtain⟨ra,rb,ro,rc,rfl,hN⟩:=hv;obtain⟨nm,dev,l0,l1,l2⟩:=p;simp only [] at hs hd hN ⊢;obtain⟨n,hn⟩:=qX dev.length;rw [hn] at hd ⊢;obtain⟨W1,af,K1⟩:=nw1 w #[.string nm,.slice ra n rc,.int .i64 l0,.int .i64 l1,.int .i64 l2] 55;have H:=qH (qA (hN.below K1.o.1) hn);have ag:=qmu nm W1 hs;have ai:=qH ag;have c0:=qC W1 _ 0 _ _ _ K1.o.2;have c1:=qC W1 _ 1 _ _ _ K1.o.2;have hl:=(qG K1.o.2).1;clear hN hn ag;go_enter func124,ntmps124;go_wp2_with fail;rw [<-af];clear af;refine ai.o.mono ?_;rintro e w2 ⟨b,rfl,V,aa⟩;have I:=K1.below aa;have ah:=qH aa;clear c0 c1 aa;have c1:=qC w2 _ 1 _ _ _ I.o.2;cases b with
 | false =>
  have HX:=qH (show ¬qhf nm from fun h=>by have:=V.2 h;cases this);clear V;go_wp2;go_ret;exact .no (fun h=>HX.o h.name) I.o.1
 | true =>
  have HX:=qH (V.1 rfl);clear V
  by_cases h1:1<=n
  case neg =>
   have hi:(n:Int)<1:=by omega
   go_wp2;go_ret;exact .no (fun h=>h1 (by have:=h.n1;have:=H.o.2;simp only [] at *;omega)) I.o.1
  have au:¬(n:Int)<1:=by omega
  by_cases h2:n<=4
  case neg =>
   have hi:(4:Int)<n:=by omega
   go_wp2;go_ret;exact .no (fun h=>h2 (by have:=h.n4;have:=H.o.2;simp only [] at *;omega)) I.o.1
  have av:¬(4:Int)<n:=by omega
  have aj:=H.o.1.addr (by have:=H.o.2;omega);subst aj;go_wp2_with fail
  go_loop [28] (fun x28=>∃k:Nat,k<=n/\x28=.int .i64 k/\Hu (∀j,j<k->0<=dev.getD j 0/\dev.getD j 0<=10000)) (fun x28=>n-(intOf x28).toNat)
  case atStart=>exact⟨0,qam _,rfl,qH (fun j h=>absurd h (by omega))⟩
  case round =>
   obtain⟨k,hk,rfl,U⟩:=hrel
   by_cases ak:k<n
   ·have ay:(k:Int)<n:=by omega
    have ae:=H.o.1.below ah.o;have d0:=ae.cell k (by have:=H.o.2;omega);obtain⟨x,hx⟩:=qX (dev.getD k 0);rw [hx] at d0;have Z:=qH hx;clear hx ae
    by_cases J:x<0
    ·go_wp2;go_ret;exact .no (fun h=>by have:=h.vals k (by have:=H.o.2;simp only [];omega);have:=Z.o;simp only [] at *;omega) I.o.1
    ·by_cases O:10000<x
     ·go_wp2;go_ret;exact .no (fun h=>by have:=h.vals k (by have:=H.o.2;simp only [];omega);have:=Z.o;simp only [] at *;omega) I.o.1
     ·go_wp2_with fail
      go_round
      case rel=>exact⟨k+1,ak,by go_num,qH (fun j hj=>by
       rcases (show j<k\/j=k by omega) with h | h
       ·exact U.o j h
       ·subst h;rw [Z.o];omega)⟩
      case measure=>simp [intOf];omega
   ·obtain rfl:k=n:=by omega
    have c2:=qC w2 _ 2 _ _ _ I.o.2;have c3:=qC w2 _ 3 _ _ _ I.o.2;have c4:=qC w2 _ 4 _ _ _ I.o.2;have HV:=qH (show qcz dev from fun j hj=>U.o j (by have:=H.o.2;omega));clear U;have az:∀W,(Instr.index 53 (.agg #[.int .i64 l0,.int .i64 l1,.int .i64 l2]) (.int .i64 0)).run prog W=.ok (.int .i64 l0) W:=fun _=>by kernel_rfl
    have aA:∀W,(Instr.index 53 (.agg #[.int .i64 l0,.int .i64 l1,.int .i64 l2]) (.int .i64 1)).run prog W=.ok (.int .i64 l1) W:=fun _=>by kernel_rfl
    have aB:∀W,(Instr.index 53 (.agg #[.int .i64 l0,.int .i64 l1,.int .i64 l2]) (.int .i64 2)).run prog W=.ok (.int .i64 l2) W:=fun _=>by kernel_rfl
    have F:=qH I.o.1;clear I K1;go_wp2_with fail;clear c1 c2 c3 c4
    go_loop [41] (fun x41=>∃k:Nat,k<=3/\x41=.int .i64 k/\Hu (∀j,j<k->qiF j<=(Pt.lab ⟨nm,dev,l0,l1,l2⟩ j)/\(Pt.lab ⟨nm,dev,l0,l1,l2⟩ j)<=qgt j)) (fun x41=>3-(intOf x41).toNat)
    case atStart=>exact⟨0,qam _,rfl,qH (fun j h=>absurd h (by omega))⟩
    case round =>
     obtain⟨i,ax,rfl,U⟩:=hrel;have G:Hu (∀j,j<3->¬(qiF j<=(Pt.lab ⟨nm,dev,l0,l1,l2⟩ j)/\(Pt.lab ⟨nm,dev,l0,l1,l2⟩ j)<=qgt j)->¬PtOk ⟨nm,dev,l0,l1,l2⟩):=qH (fun j hj hn h=>hn (by
      rcases (show j=0\/j=1\/j=2 by omega) with rfl | rfl | rfl
      ·exact h.l0
      ·exact h.l1
      ·exact h.l2))
     rcases (show i=0\/i=1\/i=2\/i=3 by omega) with rfl | rfl | rfl | rfl
     ·by_cases J:l0<0
      ·go_wp2_with ((go_at_call 196;refine (qe1 _).mono ?_;rintro e Y ⟨rfl,rfl⟩))
       go_ret;exact .no (G.o 0 (by decide) (fun h=>by have:=h.1;show False;exact absurd J (by simpa [qiF,Pt.lab] using this))) F.o
      ·by_cases O:10000<l0
       ·go_wp2_with ((go_at_call 196;refine (qe1 _).mono ?_;rintro e Y ⟨rfl,rfl⟩))
        go_ret;exact .no (G.o 0 (by decide) (fun h=>by have:=h.2;exact absurd O (by simpa [qgt,Pt.lab] using this))) F.o
       ·go_wp2_with ((go_at_call 196;refine (qe1 _).mono ?_;rintro e Y ⟨rfl,rfl⟩))
        go_round
        case rel=>exact⟨1,by decide,rfl,qH (fun j hj=>by
         obtain rfl:j=0:=by omega
         exact⟨J,O⟩)⟩
        case measure=>simp [intOf]
     ·by_cases J:l1 < -12800
      ·go_wp2_with ((go_at_call 196;refine (qdm _ (by decide) _).mono ?_;rintro e Y ⟨rfl,rfl⟩))
       go_ret;exact .no (G.o 1 (by decide) (fun h=>by have:=h.1;exact absurd J (by simpa [qiF,Pt.lab] using this))) F.o
      ·by_cases O:12700<l1
       ·go_wp2_with ((go_at_call 196;refine (qdm _ (by decide) _).mono ?_;rintro e Y ⟨rfl,rfl⟩))
        go_ret;exact .no (G.o 1 (by decide) (fun h=>by have:=h.2;exact absurd O (by simpa [qgt,Pt.lab] using this))) F.o
       ·go_wp2_with ((go_at_call 196;refine (qdm _ (by decide) _).mono ?_;rintro e Y ⟨rfl,rfl⟩))
        go_round
        case rel=>exact⟨2,by decide,rfl,qH (fun j hj=>by
         rcases (show j<1\/j=1 by omega) with h | rfl
         ·exact U.o j h
         ·exact⟨J,O⟩)⟩
        case measure=>simp [intOf]
     ·by_cases J:l2 < -12800
      ·go_wp2_with ((go_at_call 196;refine (qdm _ (by decide) _).mono ?_;rintro e Y ⟨rfl,rfl⟩))
       go_ret;exact .no (G.o 2 (by decide) (fun h=>by have:=h.1;exact absurd J (by simpa [qiF,Pt.lab] using this))) F.o
      ·by_cases O:12700<l2
       ·go_wp2_with ((go_at_call 196;refine (qdm _ (by decide) _).mono ?_;rintro e Y ⟨rfl,rfl⟩))
        go_ret;exact .no (G.o 2 (by decide) (fun h=>by have:=h.2;exact absurd O (by simpa [qgt,Pt.lab] using this))) F.o
       ·go_wp2_with ((go_at_call 196;refine (qdm _ (by decide) _).mono ?_;rintro e Y ⟨rfl,rfl⟩))
        go_round
        case rel=>exact⟨3,by decide,rfl,qH (fun j hj=>by
         rcases (show j<2\/j=2 by omega) with h | rfl
         ·exact U.o j h
         ·exact⟨J,O⟩)⟩
        case measure=>simp [intOf]
     ·go_wp2;go_ret;exact .yes ⟨HX.o,by have:=H.o.2;simp only [];omega,by have:=H.o.2;simp only [];omega,HV.o,U.o 0 (by decide),U.o 1 (by decide),U.o 2 (by decide)⟩ F.o
theorem qeq (w:World):Calls prog 52 #[.int .i64 0] w fun e F=>e=.returned (.tuple #[])/\w=F:=by
 go_enter func52,ntmps52;go_wp2_with fail
 go_end0
 exact⟨rfl,rfl⟩
theorem qcd (c:Int) (h:c≠0) (w:World):Calls prog 52 #[.int .i64 c] w fun e F=>e=thrown c/\w=F:=by
 have G:(c != 0)=true:=by rw [bne_iff_ne];exact h
 go_enter func52,ntmps52;go_wp2_with fail;exact⟨rfl,rfl,rfl⟩
theorem qct (x y:ByteArray) (w:World):Calls prog 60 #[.agg #[.string x,.string y],.int .i64 0] w fun e I=>e=.returned (.agg #[.string x,.string y])/\Below w.heap.size w I:=by
 obtain⟨H,G,F⟩:=nw2 w #[.string x,.string y] 44 #[.string ⟨#[]⟩,.string ⟨#[]⟩] 44;have c0:=qC H _ 0 _ _ _ F.o.2.1;have c1:=qC H _ 1 _ _ _ F.o.2.1;go_enter func60,ntmps60;go_wp2_with fail;rw [<-G];clear G;refine (qeq _).mono ?_;rintro e J ⟨rfl,rfl⟩
 go_wp2_with ((with_reducible refine sR_ rfl 44 _ _ rfl (w.heap.size+1) #[.string x,.string y] F.o.2.2 2 ?_))
 exact qR (v:=.agg #[.string x,.string y]) (rA_ rfl (w.heap.size+1) (qT _ _ _ _ _ _ F.o.2.2) underlying44 2) rfl ⟨rfl,qS F.o.1 (by omega) _⟩
theorem qmx (x y:ByteArray) (c:Int) (h:c≠0) (w:World):Calls prog 60 #[.agg #[.string x,.string y],.int .i64 c] w fun e H=>e=thrown c/\Below w.heap.size w H:=by
 obtain⟨I,F,G⟩:=nw2 w #[.string x,.string y] 44 #[.string ⟨#[]⟩,.string ⟨#[]⟩] 44;go_enter func60,ntmps60;go_wp2_with fail;rw [<-F];clear F;refine (qcd c h _).mono ?_;rintro e J ⟨rfl,rfl⟩;exact⟨rfl,rfl,G.o.1⟩
theorem qkn (F:Option Addr) (n c:Nat) (w:World):Calls prog 128 #[.slice F n c,.int .i64 0] w fun e G=>e=.returned (.slice F n c)/\w=G:=by
 go_enter func128,ntmps128;go_wp2_with fail;refine (qeq _).mono ?_;rintro e H ⟨rfl,rfl⟩;go_wp2;go_ret;exact⟨rfl,rfl⟩
theorem qgG (F:Option Addr) (n c:Nat) (d:Int) (h:d≠0) (w:World):Calls prog 128 #[.slice F n c,.int .i64 d] w fun e G=>e=thrown d/\w=G:=by
 go_enter func128,ntmps128;go_wp2_with fail;refine (qcd d h _).mono ?_;rintro e H ⟨rfl,rfl⟩;exact⟨rfl,rfl,rfl⟩
theorem qel (n:Int) (w:World):Calls prog 140 #[.int .i64 n,.int .i64 0] w fun e F=>e=.returned (.int .i64 n)/\w=F:=by
 go_enter func140,ntmps140;go_wp2_with fail;refine (qeq _).mono ?_;rintro e G ⟨rfl,rfl⟩;go_wp2;go_ret;exact⟨rfl,rfl⟩
theorem qgF (n d:Int) (h:d≠0) (w:World):Calls prog 140 #[.int .i64 n,.int .i64 d] w fun e F=>e=thrown d/\w=F:=by
 go_enter func140,ntmps140;go_wp2_with fail;refine (qcd d h _).mono ?_;rintro e G ⟨rfl,rfl⟩;exact⟨rfl,rfl,rfl⟩
theorem qho {kind:Int} {k:Nat} (h:qcu kind k):kind=1/\k=1\/kind=2/\k=2\/kind=3/\k=3:=by
 obtain⟨rfl,F,G⟩:=h;omega
theorem qgs (kind:Int) (w:World):Calls prog 54 #[.int .i64 kind] w fun e H=>e=.returned (.bool (decide (1<=kind/\kind<=3)))/\w=H:=by
 by_cases F:1<=kind
 ·by_cases G:kind<=3
  ·rw [qV (show 1<=kind/\kind<=3 from ⟨F,G⟩)];go_enter func54,ntmps54;go_wp2;go_ret;exact⟨rfl,rfl⟩
  ·rw [qU (show ¬(1<=kind/\kind<=3) from fun h=>G h.2)];go_enter func54,ntmps54;go_wp2;go_ret;exact⟨rfl,rfl⟩
 ·rw [qU (show ¬(1<=kind/\kind<=3) from fun h=>F h.1)];go_enter func54,ntmps54;go_wp2;go_ret;exact⟨rfl,rfl⟩
theorem qfP (O:Option Addr) (b off n c:Nat) (d:List Int) (m:Int) (w:World) (V:d.length=n) (hl:n<=4611686018427387904) (hN:NCells w O b off d) :
  Calls prog 77 #[.slice O n c,.int .i64 m] w fun e w'=>∃r:Int,e=.returned (.int .i64 r)/\(r=0/\((n:Int)=m/\qcz d)\/r=2/\¬((n:Int)=m/\qcz d))/\w=w':=by
 by_cases J:(n:Int)=m
 case neg =>
  have hne:((n:Int) != m)=true:=by rw [bne_iff_ne];exact J
  clear hN;go_enter func77,ntmps77;go_wp2;go_ret;exact⟨2,rfl,qag ⟨rfl,fun h=>J h.1⟩,rfl⟩
 subst J;have F:=qH (qA hN V);clear hN V;go_enter func77,ntmps77;go_wp2_with fail
 go_loop [13] (fun x13=>∃k:Nat,k<=n/\x13=.int .i64 k/\Hu (∀j,j<k->0<=d.getD j 0/\d.getD j 0<=10000)) (fun x13=>n-(intOf x13).toNat)
 case atStart=>exact⟨0,qam _,rfl,qH (fun j h=>absurd h (by omega))⟩
 case round =>
  obtain⟨k,hk,rfl,U⟩:=hrel
  by_cases I:k<n
  ·have aa:(k:Int)<n:=by omega
   have H:=F.o.1.addr (by have:=F.o.2;omega);subst H;have Y:=F.o.1.cell k (by have:=F.o.2;omega);obtain⟨x,hx⟩:=qX (d.getD k 0);rw [hx] at Y;have G:=qH hx;clear hx
   by_cases e1:x<0
   ·go_wp2;go_ret;exact⟨2,rfl,qag ⟨rfl,fun h=>by have:=h k (by have:=F.o.2;omega);have:=G.o;omega⟩,rfl⟩
   ·by_cases e2:10000<x
    ·go_wp2;go_ret;exact⟨2,rfl,qag ⟨rfl,fun h=>by have:=h k (by have:=F.o.2;omega);have:=G.o;omega⟩,rfl⟩
    ·go_wp2_with fail
     go_round
     case rel=>exact⟨k+1,I,by go_num,qH (fun j Z=>by
      rcases (show j<k\/j=k by omega) with h | h
      ·exact U.o j h
      ·subst h;rw [G.o];omega)⟩
     case measure=>simp [intOf];omega
  ·obtain rfl:k=n:=by omega
   go_wp2;go_ret;exact⟨0,rfl,qal ⟨rfl,fun j Z=>U.o j (by have:=F.o.2;omega)⟩,rfl⟩
def lin (d:List Int):List Rat:=1 :: (List.range d.length).map (dq d)
def sqs (d:List Int) (k:Nat):List Rat:=(List.range k).map fun j=>dq d j*dq d j
theorem qmj (d:List Int):(lin d).length=d.length+1:=by simp [lin]
theorem sqs_succ (d:List Int) (k:Nat):sqs d (k+1)=sqs d k++[dq d k*dq d k]:=by unfold sqs;rw [List.range_succ,qaZ];rfl
theorem qjS (d:List Int):termL 2 d=lin d++sqs d d.length:=rfl
theorem qib (d:List Int):termL 3 d=prods d d.length:=rfl
theorem qeQ (kind:Nat) (d:List Int):told (many kind d.length) (termQ kind d)=(termL kind d).map ftxt:=by
 rw [<-qd8];refine List.ext_getElem (by rw [qbW,qat]) fun i F H=>?_
 rw [qbW] at F;have G:=qdg (x:=termQ kind d) F;rw [qaa,qad (by rw [qbW];exact F)] at G;rw [List.getElem_map];refine Eq.trans G ?_;unfold termQ;rw [qaa,qad F];rfl
theorem lin_told (d:List Int):(lin d).map ftxt=ftxt 1 :: told d.length (dq d):=by unfold lin told;rw [qbw,List.map_map];rfl
theorem FCells.part {W:World} {F:Option Addr} {b off:Nat} {l l2:List FT} (h:FCells W F b off (l++l2)):FCells W F b off l :=
 ⟨fun H=>h.addr (by rw [qaf];omega),fun k G=>by
  have:=h.cell k (by rw [qaf];omega);rw [qaa,qar G,<-qaa] at this;exact this⟩
theorem FCells.appended {w I:World} {B:Nat} {v Y:Value} {n' g:Nat} {l l2:List FT} {L:List FT} (O:FCells w (some ⟨g,0,none⟩) g 0 L) (h0:0<L.length) (hn:(l++l2).length=n') (H:Rws I B 44 2 Y n' (fflat (l++l2))) (G:∃V,l=L++V)
  (h:Y.ownBlock=v.ownBlock/\w.grownBy I v.ownBlock\/Y.ownBlock=some w.heap.size/\w.grownBy I none):FCells I (some ⟨g,0,none⟩) g 0 L:=by
 rcases h with ⟨e,F⟩ | ⟨_,F⟩
 ·by_cases hg:v.ownBlock=some g
  ·obtain⟨ao,g',cap,rfl,J,_⟩:=qdj H hn;have ha:=J.addr (by rw [qaf];obtain⟨V,rfl⟩:=G;rw [qaf];omega);subst ha;have:g'=g:=by
    have Z:some g'=v.ownBlock:=e;rw [hg] at Z;exact qah Z
   subst this;obtain⟨V,rfl⟩:=G;rw [qaE] at J;exact J.part
  ·exact⟨O.addr,fun k U=>by
    obtain⟨c1,c2⟩:=O.cell k U;exact⟨F.cell c1 (fun e=>hg e.symm),F.cell c2 (fun e=>hg e.symm)⟩⟩
 ·exact O.below ⟨F.os,F.tape,F.output,F.size,fun i hi=>F.block i hi (fun e=>by cases e)⟩
theorem qcH {w I:World} {v H:Value} {g:Nat} {o:Obj} (hg:w.heap[g]? = some o) (hne:v.ownBlock≠some g) (h:H.ownBlock=v.ownBlock/\w.grownBy I v.ownBlock\/H.ownBlock=some w.heap.size/\w.grownBy I none):I.heap[g]? = some o/\H.ownBlock≠some g:=by
 have F:=(qG hg).1;rcases h with ⟨e,G⟩ | ⟨e,G⟩
 ·exact⟨(G.block g F (fun e=>hne e.symm)).trans hg,by rw [e];exact hne⟩
 ·exact⟨(G.block g F (fun e=>by cases e)).trans hg,by rw [e];intro J;have:=qah J;omega⟩
theorem qdB {w G a:World} {B:Nat} {v I:Value} (H:Below B a w) (O:∀k,v.ownBlock=some k->B<=k) (U:B<=w.heap.size) (h:I.ownBlock=v.ownBlock/\w.grownBy G v.ownBlock\/I.ownBlock=some w.heap.size/\w.grownBy G none):Below B a G:=by
 rcases h with ⟨_,F⟩ | ⟨_,F⟩
 ·exact H.trans ⟨F.os,F.tape,F.output,F.size,fun i J=>F.block i (by omega) (fun e=>by have:=O i e.symm;omega)⟩
 ·exact H.trans ⟨F.os,F.tape,F.output,F.size,fun i J=>F.block i (by omega) (fun e=>by cases e)⟩
theorem qfu {W:World} {B:Nat} {y:Value} {n g:Nat} {G:List Value} {cs:Array Value} {t:TypeId} (h:Rws W B 44 2 y n G) (hg:W.heap[g]? = some (.cells cs t (0,0))) (e:y.ownBlock=some g):44=t:=by
 rcases h.2 with ⟨rfl,_⟩ | ⟨g',cap,cur,rfl,_,F,_⟩
 ·cases e
 ·have:g'=g:=qah e;subst this;have:=F.symm.trans hg;simp at this;exact this.2
theorem qmY {W:World} {g F:Nat} {cs cs':Array Value} {t G:TypeId} (h:W.heap[g]? = some (.cells cs t (0,0))) (H:W.heap[F]? = some (.cells cs' G (0,0))) (e:g=F):t=G:=by
 subst e;have:=h.symm.trans H;simp at this;exact this.2
theorem qlo (p:Nat) (y:Value) (w:World) (h:w.heap[p]? = some (.cells #[y] 35 (0,0))) (hy:∃a n c,y=.slice a n c) :
  Calls prog 125 #[.pointer (some ⟨p,0,none⟩)] w fun e F=>e=.returned y/\w=F:=by
 obtain⟨a,n,c,rfl⟩:=hy;have c0:=qC w _ 0 _ _ _ h;go_enter func125,ntmps125;go_wp2;go_ret;exact⟨rfl,rfl⟩
def T2St (w:World) (B G H F n c5:Nat) (d:List Int) (k:Nat) (y:Value) (W:World):Prop :=
 Below B w W/\W.heap[G]? = some (.cells #[.slice (some ⟨F,0,none⟩) n c5] 35 (0,0))/\W.heap[H]? = some (.cells #[y] 35 (0,0))/\FRow W F n (told n (dq d))/\Rws W B 44 2 y (n+1+k) (fflat ((lin d++sqs d k).map ftxt))/\y.ownBlock≠some F
theorem T2St.below {w:World} {B H I G n c5:Nat} {d:List Int} {k:Nat} {y:Value} {W W':World} (h:T2St w B H I G n c5 d k y W) (J:B<=W.heap.size) (F:Below W.heap.size W W'):T2St w B H I G n c5 d k y W' :=
 ⟨h.1.trans (F.mono J),zkeep F _ _ h.2.1,zkeep F _ _ h.2.2.1,h.2.2.2.1.below F,h.2.2.2.2.1.below F,h.2.2.2.2.2⟩
theorem qlp (B p5 Z g5 n c5:Nat) (d:List Int) (y0:Value) (w:World) (hB:B<=w.heap.size) (aH:B<=Z) (hp:p5≠Z) (hn:d.length=n) (aL:n<=4) (hV:qcz d) (aj:∀W,Below B w W->HasT W) (hI:T2St w B p5 Z g5 n c5 d 0 y0 w) :
  Calls prog 126 #[.pointer (some ⟨p5,0,none⟩),.pointer (some ⟨Z,0,none⟩)] w fun e w'=>∃y,e=.returned y/\Rws w' B 44 2 y (n+1+n) (fflat ((termL 2 d).map ftxt))/\Below B w w':=by
 have ax:∀k,Short (dq d k):=fun k=>(dq_cd hV k).short (by decide) (by decide +kernel) (by decide +kernel)
 have az:∀k,Short (dq d k*dq d k):=fun k=>((dq_cd hV k).mul (dq_cd hV k) (by decide) (by decide)).short (by decide) (by decide +kernel) (by decide +kernel)
 have HS:=qH (qA ax (qA az hn));have HI:=qH hI;have aA:=qH aj;have aB:=qC w _ 0 _ _ _ hI.2.1;clear ax az hV hI hn aj;go_enter func126,ntmps126;go_wp2_with fail;clear aB
 go_loopw [7] (fun x7 W=>∃(k:Nat) (y:Value),x7=.int .i64 k/\k<=n/\Hu (T2St w B p5 Z g5 n c5 d k y W/\B<=W.heap.size)) (fun x7 _=>n-(intOf x7).toNat)
 case atStart=>exact⟨0,y0,rfl,qam _,qH ⟨HI.o,hB⟩⟩
 case round =>
  obtain⟨k,y,rfl,hk,K⟩:=hrel
  by_cases ah:k<n
  ·have aK:(k:Int)<n:=by omega
   have ak:=K.o.1.2.2.2.1.cells (qbW _ _);obtain⟨d0,d1⟩:=ak.cell k (by rw [qbW];exact ah);rw [qdg ah,qaH] at d0 d1;obtain⟨x1,x2,hx⟩:=qb6 (dq d k);rw [hx] at d0 d1;have HX:=qH hx;clear hx ak;go_wp2_with fail;obtain⟨W1,Y⟩:=qY (wr.alloc (.cells #[.string x1,.string x2] 44));rw [<-Y];have af:Below wr.heap.size wr W1:=Y▸qbS qB qN;have av:W1.heap[wr.heap.size]? = some (.cells #[.string x1,.string x2] 44 (0,0)):=by rw [Y];exact qM _ _ _ rfl
   have U:=qH (qA (K.o.1.below K.o.2 af) (qA (qaj K.o.2 af.size) av));clear Y af av d0 d1;refine wp_region_held_drew (S:=fun _=>True) (by kernel_rfl) trivial (fun hS0=>?_);refine gr [(0,11),(1,12),(2,13),(3,14),(4,15),(5,16),(6,17),(7,18)] [(3,[1,2]),(4,[3]),(5,[3]),(6,[4,5]),(7,[6])] [] [0,1,2,3,4,5,6,7] [] 8 10
    (fl2 [(0,fun z _=>z=y),(1,fun z _=>z=.agg #[.string x1,.string x2]),(2,fun z _=>z=.agg #[.string x1,.string x2]),(3,fun z _=>z=.tuple #[.agg #[.string (ftxt (dq d k*dq d k)).1,.string (ftxt (dq d k*dq d k)).2],.int .i64 0]),(4,fun z _=>z=.agg #[.string (ftxt (dq d k*dq d k)).1,.string (ftxt (dq d k*dq d k)).2]),(5,fun z _=>z=.int .i64 0),(6,fun z _=>z=.agg #[.string (ftxt (dq d k*dq d k)).1,.string (ftxt (dq d k*dq d k)).2]),
     (7,fun z W=>∃g:Nat,W.heap[g]? = some (.cells #[.string (ftxt (dq d k*dq d k)).1,.string (ftxt (dq d k*dq d k)).2] 44 (0,0))/\z=.slice (some ⟨g,0,none⟩) 1 1)]) _ 2
    (hS:=fun _ _=>trivial) (hstep:=⟨⟨_,rfl,fun v J H G Kk I=>?_⟩,⟨_,rfl,fun v J H G Kk I=>?_⟩,⟨_,rfl,fun v J H G Kk I=>?_⟩,⟨_,rfl,fun v J H G Kk I=>?_⟩,⟨_,rfl,fun v J H G Kk I=>?_⟩,⟨_,rfl,fun v J H G Kk I=>?_⟩,⟨_,rfl,fun v J H G Kk I=>?_⟩,⟨_,rfl,fun v J H G Kk I=>?_⟩,trivial⟩) (hend:=fun v J H G _ fu=>?_)
   ·have h0:=qC _ _ 0 _ _ _ (U.o.1.below U.o.2.1 (qb2 H)).2.2.1;exact gV I rfl
   ·have q0:=qC _ _ 0 _ _ _ (zkeep (qb2 H) _ _ U.o.2.2);have q1:=qC _ _ 1 _ _ _ (zkeep (qb2 H) _ _ U.o.2.2);exact gV I rfl
   ·have q0:=qC _ _ 0 _ _ _ (zkeep (qb2 H) _ _ U.o.2.2);have q1:=qC _ _ 1 _ _ _ (zkeep (qb2 H) _ _ U.o.2.2);exact gV I rfl
   ·have e1:v 1=_:=G.1;have e2:v 2=_:=G.2.1;have hm:=mulq (HS.o.1 k) (HS.o.1 k) (HS.o.2.1 k) J (aA.o J (U.o.1.below U.o.2.1 (qb2 H)).1);rw [HX.o] at hm;exact gC I hm (h:=fun e w4 ⟨e1,h2⟩=>⟨_,e1,rfl,h2⟩)
   ·have e1:v 3=_:=G.1;exact gV I rfl
   ·have e1:v 3=_:=G.1;exact gV I rfl
   ·have e1:v 4=_:=G.1;have e2:v 5=_:=G.2.1;exact gC I (qct _ _ J) (h:=fun e w4 ⟨e1,h2⟩=>⟨_,e1,rfl,h2⟩)
   ·have e1:v 6=_:=G.1;exact gW I (h:=⟨⟨J.heap.size,qM _ _ _ rfl,rfl⟩,qbS qB qN⟩)
   have e0:v 0=_:=G 0 (by decide) (by decide);obtain⟨g7,au,e7⟩:∃g:Nat,_:=G 7 (by decide) (by decide);have O:=U.o.1.below U.o.2.1 (qb2 H);have ai:B<=J.heap.size:=qaj U.o.2.1 (qb2 H).size;obtain⟨y',w4,hr,V,F⟩:=qfv (m:=1) (c:=1) 35 O.2.2.2.2.1 ai (fc_row au) rfl (by decide) (by omega);obtain⟨h5,aF⟩:=qcH O.2.1 (by rintro e;exact absurd (qfu O.2.2.2.2.1 O.2.1 e) (by decide)) F;obtain⟨h9,aG⟩:=qcH O.2.2.1 (by rintro e;exact absurd (qfu O.2.2.2.2.1 O.2.2.1 e) (by decide)) F;obtain⟨ag,aa⟩:=qcH O.2.2.2.1.1 O.2.2.2.2.2 F;have ae:=qdB O.1 (fun k hk=>(O.2.2.2.2.1.lt k hk).1) ai F;have aI:J.heap.size<=w4.heap.size:=by rcases F with ⟨_,h⟩ | ⟨_,h⟩ <;> exact h.size
   rw [<-List.map_singleton (f:=ftxt),<-qaZ,qaE,<-sqs_succ] at V;obtain⟨ay,cy,rfl⟩:=V.shape;rw [e0,e7];have aC:=qC w4 _ 0 _ _ _ h9;have aD:=qF w4 _ 0 _ _ h9;refine hE 8 (he:=by exact qgR rfl rfl rfl rfl hr) (h:=⟨trivial,hN (h:=?_)⟩);refine hSg 9 (h:=⟨trivial,?_⟩);refine wpAnyH_done (by kernel_rfl) ?_ _;have K5:Hu (T2St w B p5 Z g5 n c5 d (k+1) (.slice ay (n+1+k+1) cy) (w4.setCell ⟨Z,0,none⟩ (.slice ay (n+1+k+1) cy))/\B<=(w4.setCell ⟨Z,0,none⟩ (.slice ay (n+1+k+1) cy)).heap.size):=by
    refine qH ⟨⟨ae.setCell (by exact aH) _,(qW _ _ _ _ hp).trans h5,heap_setCell_same _ _ 0 _ _ _ h9,⟨(qW _ _ _ _ (fun e=>absurd (qmY ag h9 e) (by decide))).trans ag,O.2.2.2.1.2⟩,?_,aa⟩,by rw [qbu];omega⟩;exact V.kept (qbT w4 Z 0 _) (qag (fun e=>absurd (qfu V h9 e) (by decide)))
   clear ae V hr h5 aF h9 aG ag aa F aC aD au G H e0 e7 O;go_wp2;go_roundw
   case rel=>exact⟨k+1,_,by go_num,ah,K5⟩
   case measure=>simp [intOf];omega
  ·obtain rfl:k=n:=by omega
   have aJ:=qC wr _ 0 _ _ _ K.o.1.2.2.1;go_wp2;go_ret;exact⟨y,rfl,by rw [qjS,HS.o.2.2];exact K.o.1.2.2.2.2.1,K.o.1.1⟩
def half (d:List Int) (k j:Nat):List Rat:=prods d k++((prods d k).take j).map fun p=>p*dq d k
theorem ql4 (d:List Int) (k:Nat):half d k 0=prods d k:=by simp [half]
theorem ql3 {d:List Int} {k j:Nat} (h:j<2 ^ k):half d k (j+1)=half d k j++[(prods d k).getD j 0*dq d k]:=by
 unfold half;have F:j<(prods d k).length:=by rw [qeD];exact h
 rw [List.take_succ_eq_append_getElem F,qaZ,qaE,qaa,qad F]
 rfl
theorem half_all (d:List Int) (k:Nat):half d k (2 ^ k)=prods d (k+1):=by
 unfold half;rw [qak (by rw [qeD];exact qae _)];rfl
def T3St (w:World) (B G _p8 F n c5:Nat) (d:List Int) (L:List Rat) (m:Nat) (y:Value) (W:World):Prop :=
 Below B w W/\B<=W.heap.size/\W.heap[G]? = some (.cells #[.slice (some ⟨F,0,none⟩) n c5] 35 (0,0))/\FRow W F n (told n (dq d))/\Rws W B 44 2 y m (fflat (L.map ftxt))/\y.ownBlock≠some F
theorem T3St.below {w:World} {B H I G n c5 m:Nat} {d:List Int} {L:List Rat} {y:Value} {W W':World} (h:T3St w B H I G n c5 d L m y W) (F:Below W.heap.size W W'):T3St w B H I G n c5 d L m y W' :=
 ⟨h.1.trans (F.mono h.2.1),qaj h.2.1 F.size,zkeep F _ _ h.2.2.1,h.2.2.2.1.below F,h.2.2.2.2.1.below F,h.2.2.2.2.2⟩
theorem qlq (B p5 p8 g5 n c5:Nat) (d:List Int) (w:World) (hB:B<=w.heap.size) (hn:d.length=n) (aY:n<=3) (hV:qcz d) (aA:∀W,Below B w W->HasT W)
  (h5:w.heap[p5]? = some (.cells #[.slice (some ⟨g5,0,none⟩) n c5] 35 (0,0))) (h8:w.heap[p8]? = some (.cells #[.string (ftxt 1).1,.string (ftxt 1).2] 44 (0,0))) (hF:FRow w g5 n (told n (dq d))) :
  Calls prog 127 #[.pointer (some ⟨p8,0,none⟩),.pointer (some ⟨p5,0,none⟩)] w fun e w'=>∃y,e=.returned y/\Rws w' B 44 2 y (2 ^ n) (fflat ((termL 3 d).map ftxt))/\Below B w w':=by
 have aI:∀k,Short (dq d k):=fun k=>(dq_cd hV k).short (by decide) (by decide +kernel) (by decide +kernel)
 have aH:∀k,k<=3->∀p∈prods d k,Short p:=fun k hk p hp=>(qeM (by decide) (dq_cd hV) k p hp).short (qbj (Nat.pow_pos (by decide))) (qaL (qaX (by decide) hk) qj5) (qaL (qaX (by decide) hk) qj5)
 have HS:=qH (qA aI (qA aH hn));have aM:=qH aA;obtain⟨s1,s2,Z⟩:=qb6 1;rw [Z] at h8;have Hs:=qH Z;have c80:=qC w _ 0 _ _ _ h8;have aO:=qC w _ 1 _ _ _ h8;have HI:=qH (qA h5 hF);clear aI aH hV hn aA h8 Z h5 hF;obtain⟨W1,aR,K1⟩:=nw1 w #[.string s1,.string s2] 44;have k5:=zkeep K1.o.1 _ _ HI.o.1;have I1:Hu (T3St w B p5 p8 g5 n c5 d (prods d 0) 1 (.slice (some ⟨w.heap.size,0,none⟩) 1 1) W1):=by
  refine qH ⟨K1.o.1.mono hB,qaj hB K1.o.1.size,k5,HI.o.2.below K1.o.1,?_,?_⟩
  ·rw [show (prods d 0).map ftxt=[(s1,s2)] by rw [<-Hs.o];rfl];exact qm0 K1.o.2 hB
  ·intro e;have e2:w.heap.size=g5:=qah e;have:=(qG HI.o.2.1).1;omega
 have aN:=qC w _ 0 _ _ _ HI.o.1;have aX:=(qG HI.o.1).1;clear k5 K1;go_enter func127,ntmps127;go_wp2_with fail;clear aN c80 aO
 go_loopw [3,12] (fun x3 x12 W=>∃(k:Nat),x12=.int .i64 k/\k<=n/\Hu (T3St w B p5 p8 g5 n c5 d (prods d k) (2 ^ k) x3 W)) (fun _ x12 _=>n-(intOf x12).toNat)
 case atStart=>exact⟨0,rfl,qam _,aR▸I1⟩
 case round =>
  obtain⟨k,rfl,hk,K⟩:=hrel;obtain⟨M,hM⟩:=qX (2 ^ k);have aU:M<=8:=by rw [<-hM];exact qaX (by decide) (show k<=3 by omega)
  have aQ:0<M:=by rw [<-hM];exact Nat.pow_pos (by decide)
  have I:((prods d k).map ftxt).length=M:=by rw [qat,qeD];exact hM
  rw [hM] at K;obtain⟨ao,g6,cy,rfl,ak,_⟩:=qdj K.o.2.2.2.2.1 I;have aT:=ak.addr (by omega);subst aT;have HM:=qH (qA hM (qA I ak));clear hM I ak
  by_cases ax:k<n
  ·have aW:(k:Int)<n:=by omega
   obtain⟨d0,d1⟩:=(K.o.2.2.2.1.cells (qbW _ _)).cell k (by rw [qbW];exact ax);rw [qdg ax,qaH] at d0 d1;obtain⟨v1,v2,hv⟩:=qb6 (dq d k);rw [hv] at d0 d1;have HV:=qH hv;have aZ:=qC wr _ 0 _ _ _ K.o.2.2.1;obtain⟨W2,aS,K2⟩:=nw1 wr #[.string v1,.string v2] 44;have ai:=(qG K2.o.2).1;have J0:Hu (T3St w B p5 p8 g5 n c5 d (half d k 0) (M+0) (.slice (some ⟨g6,0,none⟩) M cy) W2/\W2.heap[wr.heap.size]? = some (.cells #[.string v1,.string v2] 44 (0,0))/\FCells W2 (some ⟨g6,0,none⟩) g6 0 ((prods d k).map ftxt)/\(Value.slice (some ⟨g6,0,none⟩) M cy).ownBlock≠some wr.heap.size) :=
    qH ⟨by rw [ql4];exact K.o.below K2.o.1,K2.o.2,HM.o.2.2.below K2.o.1,fun e=>by
     have e2:g6=wr.heap.size:=qah e;have:=(K.o.2.2.2.2.1.lt g6 rfl).2;omega⟩
   clear hv ai K2;go_wp2_with fail;obtain⟨b5,aD⟩:∃b,wr.heap.size=b:=⟨_,rfl⟩;rw [aD] at J0 ⊢;clear aD
   go_loopw [3,18] (fun x3 x18 W=>∃(j:Nat),x18=.int .i64 j/\j<=M/\Hu (T3St w B p5 p8 g5 n c5 d (half d k j) (M+j) x3 W/\W.heap[b5]? = some (.cells #[.string v1,.string v2] 44 (0,0))/\FCells W (some ⟨g6,0,none⟩) g6 0 ((prods d k).map ftxt)/\x3.ownBlock≠some b5)) (fun _ x18 _=>M-(intOf x18).toNat)
   case atStart=>exact⟨0,rfl,qam _,aS▸J0⟩
   case round =>
    obtain⟨j,rfl,hj,J⟩:=hrel;obtain⟨ay,aP,rfl⟩:=J.o.1.2.2.2.2.1.shape
    by_cases av:j<M
    ·have aV:(j:Int)<M:=by omega
     obtain⟨q0,q1⟩:=J.o.2.2.1.cell j (by rw [HM.o.2.1];exact av);have ae:j<(prods d k).length:=by have:=HM.o.2.1;rw [qat] at this;omega
     have aG:((prods d k).map ftxt).getD j fd0=ftxt ((prods d k).getD j 0):=by
      rw [qaa,qaa,qau,qad ae];rfl
     obtain⟨p,hp⟩:=qX ((prods d k).getD j 0);rw [aG,hp,qaH] at q0 q1;obtain⟨p1,p2,Y⟩:=qb6 p;rw [Y] at q0 q1;have az:p∈prods d k:=by rw [<-hp,qaa,qad ae];exact List.getElem_mem ae
     have aj:p*dq d k∈prods d (k+1):=by
      show _∈prods d k++_
      exact qaK.2 (qag (qbn.2 ⟨p,az,rfl⟩))
     obtain⟨z1,z2,hz⟩:=qb6 (p*dq d k);have U:=fun (W:World) (h:Below B w W)=>mulq (HS.o.2.1 k (by omega) p az) (HS.o.1 k) (HS.o.2.1 (k+1) (by omega) _ aj) W (aM.o W h)
     rw [Y,HV.o,hz] at U;have aL:=qH U;have HP:=qH (qA hp hz);have r0:=qC wr _ 0 _ _ _ J.o.2.1;have r1:=qC wr _ 1 _ _ _ J.o.2.1;have ai:=(qG J.o.2.1).1;obtain⟨V1,aB,N1⟩:=nw1 wr #[.string p1,.string p2] 44;have J1:=qH (qA (J.o.1.below N1.o.1) (qA (zkeep N1.o.1 _ _ J.o.2.1) (qA (J.o.2.2.1.below N1.o.1) J.o.2.2.2)));clear ae aG hp Y az aj hz U N1;go_wp2_with fail;rw [<-aB];clear aB r0 r1 q0 q1;refine (aL.o V1 J1.o.1.1).mono ?_;rintro e w3 ⟨rfl,aa⟩;have J2:=qH (qA (J1.o.1.below aa) (qA (zkeep aa _ _ J1.o.2.1) (qA (J1.o.2.2.1.below aa) J1.o.2.2.2)));clear aa;go_wp2_with fail;refine (qct z1 z2 w3).mono ?_;rintro e w4 ⟨rfl,au⟩;obtain⟨V2,aC,N2⟩:=nw1 w4 #[.string z1,.string z2] 44;have H:=au.trans (N2.o.1.mono au.size);have G:=qH (qA (J2.o.1.below H) (qA (zkeep H _ _ J2.o.2.1) (qA (J2.o.2.2.1.below H) J2.o.2.2.2)));obtain⟨y',w5,hr,af,F⟩:=qfv (m:=1) (c:=1) 35 G.o.1.2.2.2.2.1 G.o.1.2.1 (fc_row N2.o.2) rfl (by decide) (by omega);have O:((half d k j).map ftxt++[(z1,z2)]).length=M+j+1:=by
      have h1:=G.o.1.2.2.2.2.1.1;rw [qb8] at h1;rw [qaf];show _+1=_;omega
     have V:=FCells.appended G.o.2.2.1 (by rw [HM.o.2.1];exact aQ) O af ⟨(((prods d k).take j).map fun p=>p*dq d k).map ftxt,by unfold half;rw [qaZ]⟩ F;obtain⟨r5,_⟩:=qcH G.o.1.2.2.1 (by rintro e;exact absurd (qfu G.o.1.2.2.2.2.1 G.o.1.2.2.1 e) (by decide)) F;obtain⟨rg,aK⟩:=qcH G.o.1.2.2.2.1.1 G.o.1.2.2.2.2.2 F;have aJ:V2.heap.size<=w5.heap.size:=by rcases F with ⟨_,h⟩ | ⟨_,h⟩ <;> exact h.size
     have aF:=qdB G.o.1.1 (fun k hk=>(G.o.1.2.2.2.2.1.lt k hk).1) G.o.1.2.1 F;obtain⟨ag,ah⟩:=qcH G.o.2.1 G.o.2.2.2 F;rw [show (z1,z2)=ftxt ((prods d k).getD j 0*dq d k) by rw [HP.o.1];exact HP.o.2.symm,<-List.map_singleton (f:=ftxt),<-qaZ,<-ql3 (by rw [HM.o.1];exact av)] at af;have J4:Hu (T3St w B p5 p8 g5 n c5 d (half d k (j+1)) (M+(j+1)) y' w5/\w5.heap[b5]? = some (.cells #[.string v1,.string v2] 44 (0,0))/\FCells w5 (some ⟨g6,0,none⟩) g6 0 ((prods d k).map ftxt)/\y'.ownBlock≠some b5) :=
      qH ⟨⟨aF,qaj G.o.1.2.1 aJ,r5,⟨rg,G.o.1.2.2.2.1.2⟩,af,aK⟩,ag,V,ah⟩
     clear au H af F O V r5 rg aK aJ aF ag ah N2;rw [aC] at hr;clear aC
     go_wp2_with ((with_reducible refine qdn rfl (.tmp 22) (.tmp 29) 35 rfl ?_ ?_ hr ?_);(next=>rfl);(next=>rfl))
     go_roundw
     case rel=>exact⟨j+1,by go_num,av,J4⟩
     case measure=>simp [intOf];omega
    ·obtain rfl:j=M:=by omega
     have J1:Hu (T3St w B p5 p8 g5 n c5 d (prods d (k+1)) (2 ^ (k+1)) (.slice ay (j+j) aP) wr):=qH (by
      have h:=J.o.1;rw [show half d k j=prods d (k+1) by rw [<-HM.o.1];exact half_all d k] at h;rw [show 2 ^ (k+1)=j+j by rw [qaI,HM.o.1];omega];exact h)
     go_wp2;go_roundw
     case rel=>exact⟨k+1,by go_num,ax,J1⟩
     case measure=>simp [intOf];omega
  ·obtain rfl:k=n:=by omega
   go_wp2;go_ret;exact⟨_,rfl,by rw [qib,HS.o.2.2,HM.o.1];exact K.o.2.2.2.2.1,K.o.1⟩
