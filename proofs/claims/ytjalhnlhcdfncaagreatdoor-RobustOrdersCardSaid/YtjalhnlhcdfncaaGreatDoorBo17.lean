import Derived.Maps.Own
import Derived.Maps.OwnOps
import Derived.Maps.Views
import Derived.Test.YtjalhnlhcdfncaaGreatDoorBo16
set_option maxRecDepth 100000
set_option maxHeartbeats 0
namespace Go.Proofs.YtjalhnlhcdfncaaGreatDoor
open Go.RowKit Go.Maps
def rawR (v:Value):Option (DataW Value×List MemPlace):=some (.held v,[])
def MapAt (W:World) (P:Program) (k:TypeId) (b n:Nat) (z:Value) (f:Lit->Value):Prop :=
 ∃D,W.ownsMap P k rawR b n D/\IsMap D/\∀E,WideAt.IsKeyLit E->D.atKey E (.held z)=.held (f E)
theorem MapAt.made (w:World) (P:Program) (k:TypeId) (z:Value):MapAt (w.alloc (.map #[] 0)) P k w.heap.size 0 z fun _=>z :=
 ⟨_,World.ownsMap_made _ _ _ _,isMap_empty,fun _ _=>rfl⟩
theorem MapAt.lt {W:World} {P:Program} {k:TypeId} {b n:Nat} {z:Value} {f:Lit->Value} (h:MapAt W P k b n z f):b<W.heap.size:=by
 obtain⟨D,h,_⟩:=h;exact h.lt
theorem MapAt.kept {W W':World} {P:Program} {k:TypeId} {b n:Nat} {z:Value} {f:Lit->Value} {row:Option Nat} (h:MapAt W P k b n z f) (hg:W.grownBy W' row) (hne:some b≠row):MapAt W' P k b n z f:=by
 obtain⟨D,h,E,F⟩:=h;exact⟨D,h.kept hg hne,E,F⟩
theorem MapAt.below {W W':World} {P:Program} {k:TypeId} {b n:Nat} {z:Value} {f:Lit->Value} (h:MapAt W P k b n z f) (E:Below W.heap.size W W'):MapAt W' P k b n z f :=
 h.kept (row:=none) ⟨E.os,E.tape,E.output,E.size,fun i F _=>E.block i F⟩ (by simp)
theorem MapAt.congr {W:World} {P:Program} {k:TypeId} {b n:Nat} {z:Value} {f g:Lit->Value} (h:MapAt W P k b n z f) (e:∀E,WideAt.IsKeyLit E->f E=g E):MapAt W P k b n z g:=by
 obtain⟨D,h,H,I⟩:=h;exact⟨D,h,H,fun E F=>by rw [I E F,e E F]⟩
theorem MapAt.look {W:World} {P:Program} {k t e:TypeId} {b n:Nat} {z:Value} {f:Lit->Value} (h:MapAt W P k b n z f) (K:Keyed P k) (J:P.underlying t=some (.map k e)) (O:(zeroValue e).run P W=.ok z W) {key:Value} {H:Lit} (E:keyOf P k key=some H) :
  (Instr.lookup t (.map (some b)) key false).run P W=.ok (f H) W:=by
 obtain⟨D,h,_,I⟩:=h;obtain⟨v,ps,hr,F⟩:=h.lookup K J O (zd:=.held z) (zp:=[]) rfl E;rw [I H (K.key E)] at F;unfold rawR at F;simp only [Option.some.injEq,Prod.mk.injEq,DataW.held.injEq] at F;rw [<-F.1];exact hr
theorem MapAt.store {W:World} {P:Program} {k t e:TypeId} {b n:Nat} {z:Value} {f:Lit->Value} (h:MapAt W P k b n z f) (K:Keyed P k) (ht:P.underlying t=some (.map k e)) (Z:n<maxLen) {H:Value} {J:Lit} (E:keyOf P k H=some J) (val:Value) :
  ∃W',(Instr.mapUpdate t (.map (some b)) H val).run P W=.ok () W'/\(∀I:Lit->Value,I J=val->(∀x,x≠J->I x=f x)->MapAt W' P k b (n+1) z I)/\W.grownBy W' (some b):=by
 obtain⟨D,h,O,Y⟩:=h;obtain⟨W',hr,F,hg⟩:=h.update K ht Z E (show rawR val=some (.held val,[]) from rfl);refine⟨W',hr,fun I U V=>⟨_,F,O.put _ _,fun x hx=>?_⟩,hg⟩
 by_cases e:x=J
 ·subst e;rw [U];exact atKey_put_same O hx _ _
 ·rw [V x e,atKey_put_other e];exact Y x hx
end Go.Proofs.YtjalhnlhcdfncaaGreatDoor
namespace Go.Proofs.YtjalhnlhcdfncaaGreatDoor
open Go Go.RowKit
instance stays_int {v:Value} {z:Int}:Stays fun W=>IntAt W v z:=⟨fun h E=>h.below E⟩
instance stays_mag {v:Value} {x:Nat}:Stays fun W=>MagAt W v x:=⟨fun h E=>h.below E⟩
instance stays_fc {E:Option Addr} {b off:Nat} {l:List FT}:Stays fun W=>FCells W E b off l:=⟨fun h F=>h.below F⟩
instance stays_nc {E:Option Addr} {b off:Nat} {l:List Int}:Stays fun W=>NCells W E b off l:=⟨fun h F=>h.below F⟩
instance stays_pc {E:Option Addr} {b off:Nat} {l:List Pt}:Stays fun W=>PCells W E b off l:=⟨fun h F=>h.below F⟩
instance stays_rws {B E:Nat} {e:TypeId} {v:Value} {n:Nat} {H:List Value}:Stays fun W=>Rws W B e E v n H:=⟨fun h F=>h.below F⟩
instance stays_tab:Stays fun W=>HasT W:=⟨fun h E=>h.below E⟩
instance stays_md {v:Value} {m:Md}:Stays fun W=>MdAt W v m:=⟨fun h E=>h.below E⟩
instance stays_mp {P:Program} {k:TypeId} {b n:Nat} {z:Value} {f:Lit->Value}:Stays fun W=>MapAt W P k b n z f:=⟨fun h E=>h.below E⟩
open Go.Proofs.Tryz
theorem qcW (q:Rat):∃s t,ftxt q=(s,t):=⟨_,_,rfl⟩
theorem mulq {p q:Rat} (F:Short p) (H:Short q) (I:Short (p*q)) (w:World) (hT:HasT w) :
  Calls prog 114 #[.agg #[.string (ftxt p).1,.string (ftxt p).2],.agg #[.string (ftxt q).1,.string (ftxt q).2]] w fun e w'=>e=.returned (.tuple #[.agg #[.string (ftxt (p*q)).1,.string (ftxt (p*q)).2],.int .i64 0])/\Below w.heap.size w w':=by
 refine (fmul_any _ _ _ _ w hT).mono ?_;rintro e w' ⟨⟨_,h⟩ | ⟨h,_⟩,E⟩
 ·rw [qeo,qeo] at h;rcases h with ⟨_,h⟩ | ⟨h,_⟩
  ·exact⟨h,E⟩
  ·exact absurd I h
 ·exact absurd ⟨qfU F,qfU H⟩ h
theorem qn9 {z d:Int} (H:0<d) (F:z.natAbs<1000000000000000000000) (E:d.natAbs<1000000000000000000000):Valid (qcj z).data.toList/\Valid (qcj d).data.toList/\Fit z.natAbs 3/\Fit d.natAbs 3/\0<d.natAbs :=
 ⟨qiv (qai F (by decide +kernel)),qiv (qai E (by decide +kernel)),qfS (by omega),qfS (by omega),by omega⟩
theorem qhE {z d:Int} (F:0<d) (H:z.natAbs<1000000000000000000000) (E:d.natAbs<1000000000000000000000):Short ((z:Rat) / (d:Rat)) :=
 qdM (qip (N:=1000000000000000000000) (by omega) (by omega) (by omega) rfl) (by decide +kernel)
theorem quo_mk {z d:Int} (E:0<d):mkRat z d.natAbs=(z:Rat) / (d:Rat):=by
 rw [<-Rat.divInt_ofNat,Rat.divInt_eq_div];have:((d.natAbs:Int):Rat)=(d:Rat):=by rw [Int.natAbs_of_nonneg (by omega)]
 rw [<-this]
theorem quo_fit {z d:Int} (F:0<d) (H:z.natAbs<1000000000000000000000) (E:d.natAbs<1000000000000000000000):RFit ((z:Rat) / (d:Rat)) 3:=by
 have h:Rb ((z:Rat) / (d:Rat)) 1000000000000000000000:=qip (by omega) (by omega) (by omega) rfl;exact⟨qfS (qaU h.1 (by decide)),qfS (qaU h.2 (by decide))⟩
theorem qj9 {s:ByteArray} (h:Valid s.data.toList) (w:World):Calls prog 119 #[.string s] w fun e w'=>e=.returned (.int .i64 0)/\Below w.heap.size w w':=by
 refine (qgA s w).mono ?_;rintro e w' ⟨c,rfl,⟨rfl,_⟩ | ⟨_,F⟩,E⟩
 ·exact⟨rfl,E⟩
 ·exact absurd h F
theorem make_int (z d:Int) (hd:0<d) (hz:z.natAbs<1000000000000000000000) (O:d.natAbs<1000000000000000000000) (w:World) (hP:HasT w) :
  Calls prog 74 #[.string (qcj z),.string (qcj d)] w fun e w'=>e=.returned (.tuple #[fstr ((z:Rat) / (d:Rat)),.int .i64 0])/\Below w.heap.size w w':=by
 obtain⟨va,vb,fa,fb,h0⟩:=qn9 hd hz O;have aA:=qhE hd hz O;have V:=quo_fit hd hz O;have ax:=quo_mk (z:=z) hd;have ae:=qkc z;have af:=qkc d;obtain⟨sa,ay⟩:∃s,qcj z=s:=⟨_,rfl⟩;obtain⟨sb,az⟩:∃s,qcj d=s:=⟨_,rfl⟩;rw [ay] at va ae ⊢;rw [az] at vb af ⊢;have HV:=qH (qA va (qA vb (qA ae af)));have U:=qH (qA fa (qA fb (qA h0 (qA aA (qA V (qA ax hP))))));have Hd:=qH hd;clear ay az va vb fa fb h0 aA V ax ae af hP hd hz O;obtain⟨W1,ah,K1⟩:=nw1 w #[.string ⟨#[]⟩,.string ⟨#[]⟩] 27;have aH:=qH (qj9 HV.o.1 W1);go_enter func74,ntmps74;go_wp2_with fail;rw [<-ah];clear ah;refine aH.o.mono ?_;rintro e w2 ⟨rfl,E⟩;have K2:=K1.below E;clear E;have aI:=qH (qj9 HV.o.2.1 w2);go_wp2_with fail;refine aI.o.mono ?_;rintro e w3 ⟨rfl,E⟩;have K3:=K2.below E;clear E;have HN:=qH ((qcx .f) sa HV.o.1 w3);go_wp2_with fail;refine HN.o.mono ?_;rintro e w4 ⟨v4,rfl,E,aD⟩;have K4:=K3.on (q:=fun W=>IntAt W v4 z) E (by rw [<-HV.o.2.2.1];exact aD);clear E aD;have aJ:=qH ((qcx .f) sb HV.o.2.1 w4);obtain⟨a4,n4,c4,b4,rfl⟩:=qb6 K4.o.2;go_wp2_with fail;refine aJ.o.mono ?_;rintro e w5 ⟨v5,rfl,E,aF⟩;have K5:=K4.on (q:=fun W=>IntAt W v5 d) E (by rw [<-HV.o.2.2.2];exact aF);clear E aF;obtain⟨a5,n5,c5,b5,rfl⟩:=qb6 K5.o.2;have aL:b5=false:=by
  obtain⟨m,e,_⟩:=K5.o.2;simp only [qaX,qa1,qaV,qbA] at e;rw [e.2.1];exact qU (by have:=Hd.o;omega)
 subst aL;have aj:(if b4=true then -(z.natAbs:Int) else (z.natAbs:Int))=z:=by
  obtain⟨m,e,_⟩:=K4.o.2;simp only [qaX,qa1,qaV,qbA] at e;rw [e.2.1]
  by_cases h:z<0
  ·rw [if_pos (by simpa using h)];omega
  ·rw [if_neg (by simpa using h)];omega
 have ak:MagAt w5 (.slice a4 n4 c4) z.natAbs:=by
  obtain⟨m,e,hm⟩:=K5.o.1.2;simp only [qaX,qa1,qaV] at e;rw [e.1];exact hm
 have av:MagAt w5 (.slice a5 n5 c5) d.natAbs:=by
  obtain⟨m,e,hm⟩:=K5.o.2;simp only [qaX,qa1,qaV] at e;rw [e.1];exact hm
 obtain⟨W6,ai,H⟩:=nw2 w5 #[.slice a4 n4 c4,.bool b4] 125 #[.slice a5 n5 c5,.bool false] 125;have HM:=qH (qA ak (qA av aj));have K7:=K5.below H.o.1;have aG:decide (d.natAbs=0)=false:=qU (by have:=U.o.2.2.1;omega);have HZ:=qH ((qcV .f) d.natAbs _ W6 (HM.o.2.1.below H.o.1));rw [aG] at HZ;have aK:=qC W6 _ 0 _ _ _ H.o.2.2;have aQ:w.heap.size<w5.heap.size:=(qG K5.o.1.1.2).1;clear aj ak av aG;go_wp2_with fail;rw [<-ai];clear ai;refine HZ.o.mono ?_;rintro e w7 ⟨rfl,hw⟩;have hw:=hw.symm;subst hw;clear aK;have aM:=rowG (g0:=w.heap.size) H.o.2.1 0;have aN:=rowG (g0:=w.heap.size) H.o.2.1 1;have aO:=rowG (g0:=w.heap.size) H.o.2.2 0;have aP:=rowG (g0:=w.heap.size) H.o.2.2 1;go_wp2_with fail;refine wp_region_held_drew (S:=fun W=>W6.grownBy W (some w.heap.size)) (by kernel_rfl) (keepB qB.drew) (fun hS0=>?_);refine hT 0 (h:=hT 1 (h:=hT 2 (h:=hT 3 (h:=hT 4 (h:=hT 5 (h:=hT 6 (h:=hT 8 (h:=hT 9 (h:=?_)))))))));refine hC 7 (f:=123) ((qcq .f) z.natAbs b4 _ _ ((HM.o.1.below H.o.1).below qB.drew)) (h:=?_);rintro e w7 ⟨u,rfl,F,hu⟩;rw [HM.o.2.2] at hu;obtain⟨au,nu,cu,bu,rfl⟩:=qb6 hu;have K8:=K7.below (qcm F);refine⟨_,rfl,qlp F,hN (h:=?_)⟩;refine hC 10 (qkT z d.natAbs 3 (by decide) _ _ w7 hu ((HM.o.2.1.below H.o.1).below (qcm F)) U.o.1 U.o.2.1 U.o.2.2.1) (h:=?_);rintro e w8 ⟨r,rfl,Z,hr⟩;rw [U.o.2.2.2.2.2.1] at hr;obtain⟨ar,nr,cr,br,er,fr,gr,rfl⟩:=qdu hr;have Y:=qcl (qlp (g:=w.heap.size) F) Z;have K9:=K8.below Z;refine⟨_,rfl,Y,hN (h:=?_)⟩;refine hC 11 (qgy _ 3 (by decide) (by decide) _ w8 hr U.o.2.2.2.2.1 (U.o.2.2.2.2.2.2.below K9.o.1.1.1)) (h:=?_);rintro e w9 ⟨h,aa⟩;rcases h with ⟨_,rfl⟩ | ⟨h,_⟩
 case inr=>exact absurd U.o.2.2.2.1 h
 have J:=qcl Y aa;have I:=K9.below aa;unfold fstr;obtain⟨t1,aB⟩:∃t,qcj ((z:Rat) / (d:Rat)).num=t:=⟨_,rfl⟩;obtain⟨t2,aC⟩:∃t,num ((z:Rat) / (d:Rat)).den=t:=⟨_,rfl⟩;rw [aB,aC];refine⟨_,rfl,J,hN (h:=?_)⟩;refine hT 12 (h:=hT 13 (h:=?_));refine hSn 14 2 I.o.1.1.2 (h:=⟨qb5 J (qcn _ _ _),?_⟩);have ag:=qb5 J (qcn w9 w.heap.size #[.string t1,.string t2]);refine hT 15 (h:=?_);refine wpAnyH_done (by kernel_rfl) ?_ _;have HE:=qH (qA (qS I.o.1.1.1 qN #[.string t1,.string t2]) I.o.1.1.2);clear I K9 K8 K7 H ag J Y aa Z F hr hu;go_wp2_with fail;exact qR (v:=.tuple #[.agg #[.string t1,.string t2],.int .i64 0]) (rB_ rfl w.heap.size (qT _ _ _ _ _ _ HE.o.2) underlying27 2) rfl ⟨by rw [<-aB,<-aC];rfl,HE.o.1⟩
theorem of_int (z d:Int) (hd:0<d) (Y:-9223372036854775808<=z/\z<=9223372036854775807) (O:d<=9223372036854775807) (w:World) (I:HasT w) :
  Calls prog 31 #[.int .i64 z,.int .i64 d] w fun e w'=>e=.returned (.tuple #[.agg #[.string (ftxt ((z:Rat) / (d:Rat))).1,.string (ftxt ((z:Rat) / (d:Rat))).2],.int .i64 0])/\Below w.heap.size w w':=by
 obtain⟨t1,t2,U⟩:=qcW ((z:Rat) / (d:Rat));rw [U];obtain⟨W1,J,K1⟩:=nw1 w #[.string ⟨#[]⟩,.string ⟨#[]⟩] 27;have HP:=qH I;have Z:=qH (qpk z Y.1 Y.2 W1 (I.below K1.o.1));have HB:=qH (fun (W:World) (h:Below w.heap.size w W)=>qpk d (by omega) O W (I.below h));have HM:=qH (fun (W:World) (h:Below w.heap.size w W)=>make_int z d hd (by omega) (by omega) W (I.below h));have HT:=qH U;obtain⟨sz,H⟩:∃s,qcj z=s:=⟨_,rfl⟩;obtain⟨sd,F⟩:∃s,qcj d=s:=⟨_,rfl⟩;rw [H] at Z;rw [F] at HB;rw [H,F,qe7,U] at HM;clear I U hd Y O H F;go_enter func31,ntmps31;go_wp2_with fail;rw [<-J];clear J;refine Z.o.mono ?_;rintro e w2 ⟨rfl,E⟩;have K2:=K1.below E;clear E;go_wp2_with fail;refine (HB.o w2 K2.o.1).mono ?_;rintro e w3 ⟨rfl,E⟩;have K3:=K2.below E;clear E;go_wp2_with fail;refine (HM.o w3 K3.o.1).mono ?_;rintro e w4 ⟨rfl,E⟩;have V:=K3.below E;clear E
 go_wp2_with ((with_reducible refine sR_ rfl 27 _ _ rfl (w.heap.size) #[.string t1,.string t2] V.o.2 2 ?_))
 exact qR (v:=.tuple #[.agg #[.string t1,.string t2],.int .i64 0]) (rB_ rfl w.heap.size (qT _ _ _ _ _ _ V.o.2) underlying27 2) rfl ⟨rfl,qS V.o.1 qN _⟩
def SaysT (w:World) (P:Prop) (e:Ending) (w':World):Prop:=∃b:Bool,e=.returned (.bool b)/\(b=true↔P)/\Below w.heap.size w w'
theorem SaysT.yes {w w':World} {P:Prop} (h:P) (E:Below w.heap.size w w'):SaysT w P (.returned (.bool true)) w':=⟨true,rfl,⟨fun _=>h,fun _=>rfl⟩,E⟩
theorem SaysT.no {w w':World} {P:Prop} (h:¬P) (E:Below w.heap.size w w'):SaysT w P (.returned (.bool false)) w':=⟨false,rfl,⟨fun e=>(by cases e),fun k=>absurd k h⟩,E⟩
theorem qjC (c:UInt8):(c.toNat<45/\qdP c=false)\/(c.toNat=45/\qdP c=true)\/((45<c.toNat/\c.toNat<48)/\qdP c=false)\/((48<=c.toNat/\c.toNat<=57)/\qdP c=true)\/((57<c.toNat/\c.toNat<65)/\qdP c=false) \/
  ((65<=c.toNat/\c.toNat<=90)/\qdP c=true)\/((90<c.toNat/\c.toNat<95)/\qdP c=false)\/(c.toNat=95/\qdP c=true)\/(c.toNat=96/\qdP c=false)\/((97<=c.toNat/\c.toNat<=122)/\qdP c=true)\/(122<c.toNat/\qdP c=false):=by
 have E:qdP c=decide ((65<=c.toNat/\c.toNat<=90)\/(97<=c.toNat/\c.toNat<=122)\/(48<=c.toNat/\c.toNat<=57)\/c.toNat=45\/c.toNat=95):=by
  unfold qdP;rw [Bool.eq_iff_iff];simp only [qbc,decide_eq_true_eq];omega
 rw [E];simp only [decide_eq_true_eq,decide_eq_false_iff_not];omega
theorem qog (s:ByteArray) (w:World) (hs:s.size<=4611686018427387904) :
    Calls prog 179 #[.string s] w fun e w'=>SaysT w (qk5 s) e w':=by
  by_cases Y:1<=s.size
  case neg =>
    have hi:(s.size:Int)<1:=by omega
    go_enter func179,ntmps179;go_wp2;go_ret;exact .no (fun h=>Y h.1) qB
  have ae:¬(s.size:Int)<1:=by omega
  by_cases Z:s.size<=12
  case neg =>
    have hi:(12:Int)<s.size:=by omega
    go_enter func179,ntmps179;go_wp2;go_ret;exact .no (fun h=>Z h.2.1) qB
  have af:¬(12:Int)<s.size:=by omega
  go_enter func179,ntmps179;go_wp2_with fail
  go_loop [16] (fun x16=>∃k:Nat,k<=s.size/\x16=.int .i64 k/\Hu (∀j (h:j<s.size),j<k->qdP s[j]=true)) (fun x16=>s.size-(intOf x16).toNat)
  case atStart=>exact⟨0,qaj _,rfl,qH (fun j _ h=>absurd h (by omega))⟩
  case round =>
    obtain⟨k,hk,rfl,hJ⟩:=hrel
    by_cases I:k<s.size
    · have ah:(k:Int)<s.size:=by omega
      have O:=qjC s[k];have aa:s[k].toNat<256:=s[k].toNat_lt;rcases O with ⟨h,E⟩ | ⟨h,E⟩ | ⟨h,E⟩ | ⟨h,E⟩ | ⟨h,E⟩ | ⟨h,E⟩ | ⟨h,E⟩ | ⟨h,E⟩ | ⟨h,E⟩ | ⟨h,E⟩ | ⟨h,E⟩
      all_goals
        have V:=qH E;clear E;obtain⟨q1,F⟩:∃q,((s[k].toNat:Int) != 45)=q:=⟨_,rfl⟩;obtain⟨q2,H⟩:∃q,((s[k].toNat:Int) != 95)=q:=⟨_,rfl⟩;obtain rfl:q1=decide ((s[k].toNat:Int)≠45):=by rw [<-F,Bool.eq_iff_iff,bne_iff_ne,decide_eq_true_eq]
        obtain rfl:q2=decide ((s[k].toNat:Int)≠95):=by rw [<-H,Bool.eq_iff_iff,bne_iff_ne,decide_eq_true_eq]
        first | rw [qV (show ((s[k].toNat:Int)≠45) by omega)] at F | rw [qU (show ¬((s[k].toNat:Int)≠45) by omega)] at F
        first | rw [qV (show ((s[k].toNat:Int)≠95) by omega)] at H | rw [qU (show ¬((s[k].toNat:Int)≠95) by omega)] at H
        go_wp2_with fail
        all_goals first
          | (exfalso;omega)
          | (go_ret
             exact .no (fun hn=>by have:=hn.2.2 k I;rw [V.o] at this;cases this) qB)
          | (have U:qdP s[k]=true:=V.o
             go_round
             case rel=>exact⟨k+1,I,by go_num,qH (fun j J ag=>by
               rcases (show j<k\/j=k by omega) with h | h
               · exact hJ.o j J h
               · subst h;exact U)⟩
             case measure=>simp [intOf];omega)
          | (exfalso;omega)
          | (exfalso;rename_i hz;simp at hz;omega)
    · obtain rfl:k=s.size:=by omega
      go_wp2;go_ret;exact .yes ⟨Y,Z,fun j J=>hJ.o j J J⟩ qB
theorem qfx (w:World) :
  Calls prog 180 #[.int .i64 0] w fun e w'=>e=.returned (.tuple #[.int .i64 0,.int .i64 10000])/\w=w':=by
 go_enter func180,ntmps180;go_wp2_with fail
 go_ret2
 exact⟨rfl,rfl⟩
theorem qdH (i:Int) (h:i≠0) (w:World) :
  Calls prog 180 #[.int .i64 i] w fun e w'=>e=.returned (.tuple #[.int .i64 (-12800),.int .i64 12700])/\w=w':=by
 have E:(i == 0)=false:=by simpa using h
 go_enter func180,ntmps180;go_wp2_with fail
 go_ret2
 exact⟨rfl,rfl⟩
def PtAt (W:World) (v:Value) (p:Pt):Prop:=∃(E:Option Addr) (rb F rc:Nat),v=.agg #[.string p.name,.slice E p.dev.length rc,.int .i64 p.l0,.int .i64 p.l1,.int .i64 p.l2]/\NCells W E rb F p.dev
def qjq (k:Nat):Int:=if k=0 then 0 else -12800
def qhk (k:Nat):Int:=if k=0 then 10000 else 12700
theorem qo1 (v:Value) (p:Pt) (w:World) (hv:PtAt w v p) (hs:p.name.size<=4611686018427387904) (hd:p.dev.length<=4611686018427387904) :
  Calls prog 103 #[v] w fun e w'=>SaysT w (PtOk p) e w':=by
 obtain⟨ra,rb,ro,rc,rfl,hN⟩:=hv;obtain⟨nm,dev,l0,l1,l2⟩:=p;simp only [] at hs hd hN ⊢;obtain⟨n,hn⟩:=qX dev.length;rw [hn] at hd ⊢;obtain⟨W1,ae,K1⟩:=nw1 w #[.string nm,.slice ra n rc,.int .i64 l0,.int .i64 l1,.int .i64 l2] 72;have F:=qH (qA (hN.below K1.o.1) hn);have af:=qog nm W1 hs;have ah:=qH af;have c0:=qC W1 _ 0 _ _ _ K1.o.2;have c1:=qC W1 _ 1 _ _ _ K1.o.2;have hl:=(qG K1.o.2).1;clear hN hn af;go_enter func103,ntmps103;go_wp2_with fail;rw [<-ae];clear ae;refine ah.o.mono ?_;rintro e w2 ⟨b,rfl,U,Z⟩;have H:=K1.below Z;have ag:=qH Z;clear c0 c1 Z;have c1:=qC w2 _ 1 _ _ _ H.o.2;cases b with
 | false =>
  have HX:=qH (show ¬qk5 nm from fun h=>by have:=U.2 h;cases this);clear U;go_wp2;go_ret;exact .no (fun h=>HX.o h.name) H.o.1
 | true =>
  have HX:=qH (U.1 rfl);clear U
  by_cases h1:1<=n
  case neg =>
   have hi:(n:Int)<1:=by omega
   go_wp2;go_ret;exact .no (fun h=>h1 (by have:=h.n1;have:=F.o.2;simp only [] at *;omega)) H.o.1
  have ak:¬(n:Int)<1:=by omega
  by_cases h2:n<=4
  case neg =>
   have hi:(4:Int)<n:=by omega
   go_wp2;go_ret;exact .no (fun h=>h2 (by have:=h.n4;have:=F.o.2;simp only [] at *;omega)) H.o.1
  have au:¬(4:Int)<n:=by omega
  have ai:=F.o.1.addr (by have:=F.o.2;omega);subst ai;go_wp2_with fail
  go_loop [28] (fun x28=>∃k:Nat,k<=n/\x28=.int .i64 k/\Hu (∀j,j<k->0<=dev.getD j 0/\dev.getD j 0<=10000)) (fun x28=>n-(intOf x28).toNat)
  case atStart=>exact⟨0,qaj _,rfl,qH (fun j h=>absurd h (by omega))⟩
  case round =>
   obtain⟨k,hk,rfl,O⟩:=hrel
   by_cases aj:k<n
   ·have ax:(k:Int)<n:=by omega
    have aa:=F.o.1.below ag.o;have d0:=aa.cell k (by have:=F.o.2;omega);obtain⟨x,hx⟩:=qX (dev.getD k 0);rw [hx] at d0;have Y:=qH hx;clear hx aa
    by_cases I:x<0
    ·go_wp2;go_ret;exact .no (fun h=>by have:=h.vals k (by have:=F.o.2;simp only [];omega);have:=Y.o;simp only [] at *;omega) H.o.1
    ·by_cases J:10000<x
     ·go_wp2;go_ret;exact .no (fun h=>by have:=h.vals k (by have:=F.o.2;simp only [];omega);have:=Y.o;simp only [] at *;omega) H.o.1
     ·go_wp2_with fail
      go_round
      case rel=>exact⟨k+1,aj,by go_num,qH (fun j hj=>by
       rcases (show j<k\/j=k by omega) with h | h
       ·exact O.o j h
       ·subst h;rw [Y.o];omega)⟩
      case measure=>simp [intOf];omega
   ·obtain rfl:k=n:=by omega
    have c2:=qC w2 _ 2 _ _ _ H.o.2;have c3:=qC w2 _ 3 _ _ _ H.o.2;have c4:=qC w2 _ 4 _ _ _ H.o.2;have HV:=qH (show qfo dev from fun j hj=>O.o j (by have:=F.o.2;omega));clear O;have ay:∀W,(Instr.index 54 (.agg #[.int .i64 l0,.int .i64 l1,.int .i64 l2]) (.int .i64 0)).run prog W=.ok (.int .i64 l0) W:=fun _=>by kernel_rfl
    have az:∀W,(Instr.index 54 (.agg #[.int .i64 l0,.int .i64 l1,.int .i64 l2]) (.int .i64 1)).run prog W=.ok (.int .i64 l1) W:=fun _=>by kernel_rfl
    have aA:∀W,(Instr.index 54 (.agg #[.int .i64 l0,.int .i64 l1,.int .i64 l2]) (.int .i64 2)).run prog W=.ok (.int .i64 l2) W:=fun _=>by kernel_rfl
    have E:=qH H.o.1;clear H K1;go_wp2_with fail;clear c1 c2 c3 c4
    go_loop [41] (fun x41=>∃k:Nat,k<=3/\x41=.int .i64 k/\Hu (∀j,j<k->qjq j<=(Pt.lab ⟨nm,dev,l0,l1,l2⟩ j)/\(Pt.lab ⟨nm,dev,l0,l1,l2⟩ j)<=qhk j)) (fun x41=>3-(intOf x41).toNat)
    case atStart=>exact⟨0,qaj _,rfl,qH (fun j h=>absurd h (by omega))⟩
    case round =>
     obtain⟨i,av,rfl,O⟩:=hrel;have bad:Hu (∀j,j<3->¬(qjq j<=(Pt.lab ⟨nm,dev,l0,l1,l2⟩ j)/\(Pt.lab ⟨nm,dev,l0,l1,l2⟩ j)<=qhk j)->¬PtOk ⟨nm,dev,l0,l1,l2⟩):=qH (fun j hj hn h=>hn (by
      rcases (show j=0\/j=1\/j=2 by omega) with rfl | rfl | rfl
      ·exact h.l0
      ·exact h.l1
      ·exact h.l2))
     rcases (show i=0\/i=1\/i=2\/i=3 by omega) with rfl | rfl | rfl | rfl
     ·by_cases I:l0<0
      ·go_wp2_with ((go_at_call 180;refine (qfx _).mono ?_;rintro e V ⟨rfl,rfl⟩))
       go_ret;exact .no (bad.o 0 (by decide) (fun h=>by have:=h.1;show False;exact absurd I (by simpa [qjq,Pt.lab] using this))) E.o
      ·by_cases J:10000<l0
       ·go_wp2_with ((go_at_call 180;refine (qfx _).mono ?_;rintro e V ⟨rfl,rfl⟩))
        go_ret;exact .no (bad.o 0 (by decide) (fun h=>by have:=h.2;exact absurd J (by simpa [qhk,Pt.lab] using this))) E.o
       ·go_wp2_with ((go_at_call 180;refine (qfx _).mono ?_;rintro e V ⟨rfl,rfl⟩))
        go_round
        case rel=>exact⟨1,by decide,rfl,qH (fun j hj=>by
         obtain rfl:j=0:=by omega
         exact⟨I,J⟩)⟩
        case measure=>simp [intOf]
     ·by_cases I:l1 < -12800
      ·go_wp2_with ((go_at_call 180;refine (qdH _ (by decide) _).mono ?_;rintro e V ⟨rfl,rfl⟩))
       go_ret;exact .no (bad.o 1 (by decide) (fun h=>by have:=h.1;exact absurd I (by simpa [qjq,Pt.lab] using this))) E.o
      ·by_cases J:12700<l1
       ·go_wp2_with ((go_at_call 180;refine (qdH _ (by decide) _).mono ?_;rintro e V ⟨rfl,rfl⟩))
        go_ret;exact .no (bad.o 1 (by decide) (fun h=>by have:=h.2;exact absurd J (by simpa [qhk,Pt.lab] using this))) E.o
       ·go_wp2_with ((go_at_call 180;refine (qdH _ (by decide) _).mono ?_;rintro e V ⟨rfl,rfl⟩))
        go_round
        case rel=>exact⟨2,by decide,rfl,qH (fun j hj=>by
         rcases (show j<1\/j=1 by omega) with h | rfl
         ·exact O.o j h
         ·exact⟨I,J⟩)⟩
        case measure=>simp [intOf]
     ·by_cases I:l2 < -12800
      ·go_wp2_with ((go_at_call 180;refine (qdH _ (by decide) _).mono ?_;rintro e V ⟨rfl,rfl⟩))
       go_ret;exact .no (bad.o 2 (by decide) (fun h=>by have:=h.1;exact absurd I (by simpa [qjq,Pt.lab] using this))) E.o
      ·by_cases J:12700<l2
       ·go_wp2_with ((go_at_call 180;refine (qdH _ (by decide) _).mono ?_;rintro e V ⟨rfl,rfl⟩))
        go_ret;exact .no (bad.o 2 (by decide) (fun h=>by have:=h.2;exact absurd J (by simpa [qhk,Pt.lab] using this))) E.o
       ·go_wp2_with ((go_at_call 180;refine (qdH _ (by decide) _).mono ?_;rintro e V ⟨rfl,rfl⟩))
        go_round
        case rel=>exact⟨3,by decide,rfl,qH (fun j hj=>by
         rcases (show j<2\/j=2 by omega) with h | rfl
         ·exact O.o j h
         ·exact⟨I,J⟩)⟩
        case measure=>simp [intOf]
     ·go_wp2;go_ret;exact .yes ⟨HX.o,by have:=F.o.2;simp only [];omega,by have:=F.o.2;simp only [];omega,HV.o,O.o 0 (by decide),O.o 1 (by decide),O.o 2 (by decide)⟩ E.o
theorem qhN (w:World):Calls prog 63 #[.int .i64 0] w fun e w'=>e=.returned (.tuple #[])/\w=w':=by
 go_enter func63,ntmps63;go_wp2_with fail
 go_end0
 exact⟨rfl,rfl⟩
theorem qdx (c:Int) (h:c≠0) (w:World):Calls prog 63 #[.int .i64 c] w fun e w'=>e=thrown c/\w=w':=by
 have E:(c != 0)=true:=by rw [bne_iff_ne];exact h
 go_enter func63,ntmps63;go_wp2_with fail;exact⟨rfl,rfl,rfl⟩
theorem qdY (x y:ByteArray) (w:World):Calls prog 70 #[.agg #[.string x,.string y],.int .i64 0] w fun e w'=>e=.returned (.agg #[.string x,.string y])/\Below w.heap.size w w':=by
 obtain⟨H,F,E⟩:=nw2 w #[.string x,.string y] 27 #[.string ⟨#[]⟩,.string ⟨#[]⟩] 27;have I:=qC H _ 0 _ _ _ E.o.2.1;have c1:=qC H _ 1 _ _ _ E.o.2.1;go_enter func70,ntmps70;go_wp2_with fail;rw [<-F];clear F;refine (qhN _).mono ?_;rintro e J ⟨rfl,rfl⟩
 go_wp2_with ((with_reducible refine sR_ rfl 27 _ _ rfl (w.heap.size+1) #[.string x,.string y] E.o.2.2 2 ?_))
 exact qR (v:=.agg #[.string x,.string y]) (rA_ rfl (w.heap.size+1) (qT _ _ _ _ _ _ E.o.2.2) underlying27 2) rfl ⟨rfl,qS E.o.1 (by omega) _⟩
theorem qoh (x y:ByteArray) (c:Int) (h:c≠0) (w:World):Calls prog 70 #[.agg #[.string x,.string y],.int .i64 c] w fun e w'=>e=thrown c/\Below w.heap.size w w':=by
 obtain⟨H,E,F⟩:=nw2 w #[.string x,.string y] 27 #[.string ⟨#[]⟩,.string ⟨#[]⟩] 27;go_enter func70,ntmps70;go_wp2_with fail;rw [<-E];clear E;refine (qdx c h _).mono ?_;rintro e I ⟨rfl,rfl⟩;exact⟨rfl,rfl,F.o.1⟩
theorem needL_ok (E:Option Addr) (n c:Nat) (w:World):Calls prog 116 #[.slice E n c,.int .i64 0] w fun e w'=>e=.returned (.slice E n c)/\w=w':=by
 go_enter func116,ntmps116;go_wp2_with fail;refine (qhN _).mono ?_;rintro e F ⟨rfl,rfl⟩;go_wp2;go_ret;exact⟨rfl,rfl⟩
theorem qjF (E:Option Addr) (n c:Nat) (d:Int) (h:d≠0) (w:World):Calls prog 116 #[.slice E n c,.int .i64 d] w fun e w'=>e=thrown d/\w=w':=by
 go_enter func116,ntmps116;go_wp2_with fail;refine (qdx d h _).mono ?_;rintro e F ⟨rfl,rfl⟩;exact⟨rfl,rfl,rfl⟩
theorem needI_ok (n:Int) (w:World):Calls prog 143 #[.int .i64 n,.int .i64 0] w fun e w'=>e=.returned (.int .i64 n)/\w=w':=by
 go_enter func143,ntmps143;go_wp2_with fail;refine (qhN _).mono ?_;rintro e E ⟨rfl,rfl⟩;go_wp2;go_ret;exact⟨rfl,rfl⟩
theorem qoi (n d:Int) (h:d≠0) (w:World):Calls prog 143 #[.int .i64 n,.int .i64 d] w fun e w'=>e=thrown d/\w=w':=by
 go_enter func143,ntmps143;go_wp2_with fail;refine (qdx d h _).mono ?_;rintro e E ⟨rfl,rfl⟩;exact⟨rfl,rfl,rfl⟩
theorem qib {kind:Int} {k:Nat} (h:qdy kind k):kind=1/\k=1\/kind=2/\k=2\/kind=3/\k=3:=by
 obtain⟨rfl,E,F⟩:=h;omega
theorem qjp (kind:Int) (w:World):Calls prog 64 #[.int .i64 kind] w fun e w'=>e=.returned (.bool (decide (1<=kind/\kind<=3)))/\w=w':=by
 by_cases E:1<=kind
 ·by_cases F:kind<=3
  ·rw [qV (show 1<=kind/\kind<=3 from ⟨E,F⟩)];go_enter func64,ntmps64;go_wp2;go_ret;exact⟨rfl,rfl⟩
  ·rw [qU (show ¬(1<=kind/\kind<=3) from fun h=>F h.2)];go_enter func64,ntmps64;go_wp2;go_ret;exact⟨rfl,rfl⟩
 ·rw [qU (show ¬(1<=kind/\kind<=3) from fun h=>E h.1)];go_enter func64,ntmps64;go_wp2;go_ret;exact⟨rfl,rfl⟩
def lin (d:List Int):List Rat:=1 :: (List.range d.length).map (dq d)
def sqs (d:List Int) (k:Nat):List Rat:=(List.range k).map fun j=>dq d j*dq d j
theorem qn2 (d:List Int):(lin d).length=d.length+1:=by simp [lin]
theorem sqs_succ (d:List Int) (k:Nat):sqs d (k+1)=sqs d k++[dq d k*dq d k]:=by unfold sqs;rw [List.range_succ,qbh];rfl
theorem qpb (d:List Int):termL 2 d=lin d++sqs d d.length:=rfl
theorem qpc (d:List Int):termL 3 d=prods d d.length:=rfl
theorem qiu (kind:Nat) (d:List Int):told (many kind d.length) (termQ kind d)=(termL kind d).map ftxt:=by
 rw [<-qhS];refine List.ext_getElem (by rw [qcb,qaD]) fun i E H=>?_
 rw [qcb] at E;have F:=qed (x:=termQ kind d) E;rw [qaa,qac (by rw [qcb];exact E)] at F;rw [List.getElem_map];refine Eq.trans F ?_;unfold termQ;rw [qaa,qac E];rfl
theorem lin_told (d:List Int):(lin d).map ftxt=ftxt 1 :: told d.length (dq d):=by unfold lin told;rw [List.map_cons,List.map_map];rfl
theorem FCells.part {W:World} {E:Option Addr} {b off:Nat} {l l2:List FT} (h:FCells W E b off (l++l2)):FCells W E b off l :=
 ⟨fun H=>h.addr (by rw [qaf];omega),fun k F=>by
  have:=h.cell k (by rw [qaf];omega);rw [qaa,qax F,<-qaa] at this;exact this⟩
theorem FCells.appended {w w':World} {B:Nat} {v V:Value} {Z g:Nat} {l l2:List FT} {L:List FT} (J:FCells w (some ⟨g,0,none⟩) g 0 L) (h0:0<L.length) (hn:(l++l2).length=Z) (H:Rws w' B 27 2 V Z (fflat (l++l2))) (F:∃U,l=L++U)
  (h:V.ownBlock=v.ownBlock/\w.grownBy w' v.ownBlock\/V.ownBlock=some w.heap.size/\w.grownBy w' none):FCells w' (some ⟨g,0,none⟩) g 0 L:=by
 rcases h with ⟨e,E⟩ | ⟨_,E⟩
 ·by_cases hg:v.ownBlock=some g
  ·obtain⟨ao,g',cap,rfl,I,_⟩:=qdD H hn;have ha:=I.addr (by rw [qaf];obtain⟨U,rfl⟩:=F;rw [qaf];omega);subst ha;have:g'=g:=by
    have Y:some g'=v.ownBlock:=e;rw [hg] at Y;exact qag Y
   subst this;obtain⟨U,rfl⟩:=F;rw [qaG] at I;exact I.part
  ·exact⟨J.addr,fun k O=>by
    obtain⟨c1,c2⟩:=J.cell k O;exact⟨E.cell c1 (fun e=>hg e.symm),E.cell c2 (fun e=>hg e.symm)⟩⟩
 ·exact J.below ⟨E.os,E.tape,E.output,E.size,fun i hi=>E.block i hi (fun e=>by cases e)⟩
theorem qdw {w w':World} {v H:Value} {g:Nat} {o:Obj} (hg:w.heap[g]? = some o) (hne:v.ownBlock≠some g) (h:H.ownBlock=v.ownBlock/\w.grownBy w' v.ownBlock\/H.ownBlock=some w.heap.size/\w.grownBy w' none):w'.heap[g]? = some o/\H.ownBlock≠some g:=by
 have E:=(qG hg).1;rcases h with ⟨e,F⟩ | ⟨e,F⟩
 ·exact⟨(F.block g E (fun e=>hne e.symm)).trans hg,by rw [e];exact hne⟩
 ·exact⟨(F.block g E (fun e=>by cases e)).trans hg,by rw [e];intro I;have:=qag I;omega⟩
theorem qeg {w w' a:World} {B:Nat} {v H:Value} (F:Below B a w) (J:∀k,v.ownBlock=some k->B<=k) (hB:B<=w.heap.size) (h:H.ownBlock=v.ownBlock/\w.grownBy w' v.ownBlock\/H.ownBlock=some w.heap.size/\w.grownBy w' none):Below B a w':=by
 rcases h with ⟨_,E⟩ | ⟨_,E⟩
 ·exact F.trans ⟨E.os,E.tape,E.output,E.size,fun i I=>E.block i (by omega) (fun e=>by have:=J i e.symm;omega)⟩
 ·exact F.trans ⟨E.os,E.tape,E.output,E.size,fun i I=>E.block i (by omega) (fun e=>by cases e)⟩
theorem qgb {W:World} {B:Nat} {y:Value} {n g:Nat} {F:List Value} {cs:Array Value} {t:TypeId} (h:Rws W B 27 2 y n F) (hg:W.heap[g]? = some (.cells cs t (0,0))) (e:y.ownBlock=some g):27=t:=by
 rcases h.2 with ⟨rfl,_⟩ | ⟨g',cap,cur,rfl,_,E,_⟩
 ·cases e
 ·have:g'=g:=qag e;subst this;have:=E.symm.trans hg;simp at this;exact this.2
theorem qoM {W:World} {g E:Nat} {cs cs':Array Value} {t F:TypeId} (h:W.heap[g]? = some (.cells cs t (0,0))) (H:W.heap[E]? = some (.cells cs' F (0,0))) (e:g=E):t=F:=by
 subst e;have:=h.symm.trans H;simp at this;exact this.2
theorem qmV (p:Nat) (y:Value) (w:World) (h:w.heap[p]? = some (.cells #[y] 22 (0,0))) (hy:∃a n c,y=.slice a n c) :
  Calls prog 112 #[.pointer (some ⟨p,0,none⟩)] w fun e w'=>e=.returned y/\w=w':=by
 obtain⟨a,n,c,rfl⟩:=hy;have E:=qC w _ 0 _ _ _ h;go_enter func112,ntmps112;go_wp2;go_ret;exact⟨rfl,rfl⟩
def T2St (w:World) (B H I E n F:Nat) (d:List Int) (k:Nat) (y:Value) (W:World):Prop :=
 Below B w W/\W.heap[H]? = some (.cells #[.slice (some ⟨E,0,none⟩) n F] 22 (0,0))/\W.heap[I]? = some (.cells #[y] 22 (0,0))/\FRow W E n (told n (dq d))/\Rws W B 27 2 y (n+1+k) (fflat ((lin d++sqs d k).map ftxt))/\y.ownBlock≠some E
theorem T2St.below {w:World} {B I J H n F:Nat} {d:List Int} {k:Nat} {y:Value} {W W':World} (h:T2St w B I J H n F d k y W) (hB:B<=W.heap.size) (E:Below W.heap.size W W'):T2St w B I J H n F d k y W' :=
 ⟨h.1.trans (E.mono hB),zkeep E _ _ h.2.1,zkeep E _ _ h.2.2.1,h.2.2.2.1.below E,h.2.2.2.2.1.below E,h.2.2.2.2.2⟩
theorem qmW (B p5 Z g5 n c5:Nat) (d:List Int) (y0:Value) (w:World) (hB:B<=w.heap.size) (aH:B<=Z) (hp:p5≠Z) (hn:d.length=n) (aL:n<=4) (hV:qfo d) (aj:∀W,Below B w W->HasT W) (hI:T2St w B p5 Z g5 n c5 d 0 y0 w) :
  Calls prog 113 #[.pointer (some ⟨p5,0,none⟩),.pointer (some ⟨Z,0,none⟩)] w fun e w'=>∃y,e=.returned y/\Rws w' B 27 2 y (n+1+n) (fflat ((termL 2 d).map ftxt))/\Below B w w':=by
 have ax:∀k,Short (dq d k):=fun k=>(dq_cd hV k).short (by decide) (by decide +kernel) (by decide +kernel)
 have az:∀k,Short (dq d k*dq d k):=fun k=>((dq_cd hV k).mul (dq_cd hV k) (by decide) (by decide)).short (by decide) (by decide +kernel) (by decide +kernel)
 have HS:=qH (qA ax (qA az hn));have HI:=qH hI;have aA:=qH aj;have aB:=qC w _ 0 _ _ _ hI.2.1;clear ax az hV hI hn aj;go_enter func113,ntmps113;go_wp2_with fail;clear aB
 go_loopw [7] (fun x7 W=>∃(k:Nat) (y:Value),x7=.int .i64 k/\k<=n/\Hu (T2St w B p5 Z g5 n c5 d k y W/\B<=W.heap.size)) (fun x7 _=>n-(intOf x7).toNat)
 case atStart=>exact⟨0,y0,rfl,qaj _,qH ⟨HI.o,hB⟩⟩
 case round =>
  obtain⟨k,y,rfl,hk,K⟩:=hrel
  by_cases ah:k<n
  ·have aK:(k:Int)<n:=by omega
   have ak:=K.o.1.2.2.2.1.cells (qcb _ _);obtain⟨d0,d1⟩:=ak.cell k (by rw [qcb];exact ah);rw [qed ah,qaT] at d0 d1;obtain⟨x1,x2,hx⟩:=qcW (dq d k);rw [hx] at d0 d1;have HX:=qH hx;clear hx ak;go_wp2_with fail;obtain⟨W1,Y⟩:=qY (wr.alloc (.cells #[.string x1,.string x2] 27));rw [<-Y];have af:Below wr.heap.size wr W1:=Y▸qb4 qB qN;have av:W1.heap[wr.heap.size]? = some (.cells #[.string x1,.string x2] 27 (0,0)):=by rw [Y];exact qM _ _ _ rfl
   have U:=qH (qA (K.o.1.below K.o.2 af) (qA (qak K.o.2 af.size) av));clear Y af av d0 d1;refine wp_region_held_drew (S:=fun _=>True) (by kernel_rfl) trivial (fun hS0=>?_);refine gr [(0,11),(1,12),(2,13),(3,14),(4,15),(5,16),(6,17),(7,18)] [(3,[1,2]),(4,[3]),(5,[3]),(6,[4,5]),(7,[6])] [] [0,1,2,3,4,5,6,7] [] 8 10
    (fl2 [(0,fun z _=>z=y),(1,fun z _=>z=.agg #[.string x1,.string x2]),(2,fun z _=>z=.agg #[.string x1,.string x2]),(3,fun z _=>z=.tuple #[.agg #[.string (ftxt (dq d k*dq d k)).1,.string (ftxt (dq d k*dq d k)).2],.int .i64 0]),(4,fun z _=>z=.agg #[.string (ftxt (dq d k*dq d k)).1,.string (ftxt (dq d k*dq d k)).2]),(5,fun z _=>z=.int .i64 0),(6,fun z _=>z=.agg #[.string (ftxt (dq d k*dq d k)).1,.string (ftxt (dq d k*dq d k)).2]),
     (7,fun z W=>∃g:Nat,W.heap[g]? = some (.cells #[.string (ftxt (dq d k*dq d k)).1,.string (ftxt (dq d k*dq d k)).2] 27 (0,0))/\z=.slice (some ⟨g,0,none⟩) 1 1)]) _ 2
    (hS:=fun _ _=>trivial) (hstep:=⟨⟨_,rfl,fun v J H F Kk I=>?_⟩,⟨_,rfl,fun v J H F Kk I=>?_⟩,⟨_,rfl,fun v J H F Kk I=>?_⟩,⟨_,rfl,fun v J H F Kk I=>?_⟩,⟨_,rfl,fun v J H F Kk I=>?_⟩,⟨_,rfl,fun v J H F Kk I=>?_⟩,⟨_,rfl,fun v J H F Kk I=>?_⟩,⟨_,rfl,fun v J H F Kk I=>?_⟩,trivial⟩) (hend:=fun v J H F _ fu=>?_)
   ·have h0:=qC _ _ 0 _ _ _ (U.o.1.below U.o.2.1 (qcm H)).2.2.1;exact gV I rfl
   ·have q0:=qC _ _ 0 _ _ _ (zkeep (qcm H) _ _ U.o.2.2);have q1:=qC _ _ 1 _ _ _ (zkeep (qcm H) _ _ U.o.2.2);exact gV I rfl
   ·have q0:=qC _ _ 0 _ _ _ (zkeep (qcm H) _ _ U.o.2.2);have q1:=qC _ _ 1 _ _ _ (zkeep (qcm H) _ _ U.o.2.2);exact gV I rfl
   ·have e1:v 1=_:=F.1;have e2:v 2=_:=F.2.1;have hm:=mulq (HS.o.1 k) (HS.o.1 k) (HS.o.2.1 k) J (aA.o J (U.o.1.below U.o.2.1 (qcm H)).1);rw [HX.o] at hm;exact gC I hm (h:=fun e w4 ⟨e1,h2⟩=>⟨_,e1,rfl,h2⟩)
   ·have e1:v 3=_:=F.1;exact gV I rfl
   ·have e1:v 3=_:=F.1;exact gV I rfl
   ·have e1:v 4=_:=F.1;have e2:v 5=_:=F.2.1;exact gC I (qdY _ _ J) (h:=fun e w4 ⟨e1,h2⟩=>⟨_,e1,rfl,h2⟩)
   ·have e1:v 6=_:=F.1;exact gW I (h:=⟨⟨J.heap.size,qM _ _ _ rfl,rfl⟩,qb4 qB qN⟩)
   have e0:v 0=_:=F 0 (by decide) (by decide);obtain⟨g7,au,e7⟩:∃g:Nat,_:=F 7 (by decide) (by decide);have O:=U.o.1.below U.o.2.1 (qcm H);have ai:B<=J.heap.size:=qak U.o.2.1 (qcm H).size;obtain⟨y',w4,hr,V,E⟩:=qhH (m:=1) (c:=1) 22 O.2.2.2.2.1 ai (fc_row au) rfl (by decide) (by omega);obtain⟨h5,aF⟩:=qdw O.2.1 (by rintro e;exact absurd (qgb O.2.2.2.2.1 O.2.1 e) (by decide)) E;obtain⟨h9,aG⟩:=qdw O.2.2.1 (by rintro e;exact absurd (qgb O.2.2.2.2.1 O.2.2.1 e) (by decide)) E;obtain⟨ag,aa⟩:=qdw O.2.2.2.1.1 O.2.2.2.2.2 E;have ae:=qeg O.1 (fun k hk=>(O.2.2.2.2.1.lt k hk).1) ai E;have aI:J.heap.size<=w4.heap.size:=by rcases E with ⟨_,h⟩ | ⟨_,h⟩ <;> exact h.size
   rw [<-List.map_singleton (f:=ftxt),<-qbh,qaG,<-sqs_succ] at V;obtain⟨ay,cy,rfl⟩:=V.shape;rw [e0,e7];have aC:=qC w4 _ 0 _ _ _ h9;have aD:=qF w4 _ 0 _ _ h9;refine hE 8 (he:=by exact qkV rfl rfl rfl rfl hr) (h:=⟨trivial,hN (h:=?_)⟩);refine hSg 9 (h:=⟨trivial,?_⟩);refine wpAnyH_done (by kernel_rfl) ?_ _;have K5:Hu (T2St w B p5 Z g5 n c5 d (k+1) (.slice ay (n+1+k+1) cy) (w4.setCell ⟨Z,0,none⟩ (.slice ay (n+1+k+1) cy))/\B<=(w4.setCell ⟨Z,0,none⟩ (.slice ay (n+1+k+1) cy)).heap.size):=by
    refine qH ⟨⟨ae.setCell (by exact aH) _,(qW _ _ _ _ hp).trans h5,heap_setCell_same _ _ 0 _ _ _ h9,⟨(qW _ _ _ _ (fun e=>absurd (qoM ag h9 e) (by decide))).trans ag,O.2.2.2.1.2⟩,?_,aa⟩,by rw [qbJ];omega⟩;exact V.kept (qb7 w4 Z 0 _) (qam (fun e=>absurd (qgb V h9 e) (by decide)))
   clear ae V hr h5 aF h9 aG ag aa E aC aD au F H e0 e7 O;go_wp2;go_roundw
   case rel=>exact⟨k+1,_,by go_num,ah,K5⟩
   case measure=>simp [intOf];omega
  ·obtain rfl:k=n:=by omega
   have aJ:=qC wr _ 0 _ _ _ K.o.1.2.2.1;go_wp2;go_ret;exact⟨y,rfl,by rw [qpb,HS.o.2.2];exact K.o.1.2.2.2.2.1,K.o.1.1⟩
def half (d:List Int) (k j:Nat):List Rat:=prods d k++((prods d k).take j).map fun p=>p*dq d k
theorem qnJ (d:List Int) (k:Nat):half d k 0=prods d k:=by simp [half]
theorem qnI {d:List Int} {k j:Nat} (h:j<2 ^ k):half d k (j+1)=half d k j++[(prods d k).getD j 0*dq d k]:=by
 unfold half;have E:j<(prods d k).length:=by rw [qeX];exact h
 rw [List.take_succ_eq_append_getElem E,qbh,qaG,qaa,qac E]
 rfl
theorem half_all (d:List Int) (k:Nat):half d k (2 ^ k)=prods d (k+1):=by
 unfold half;rw [qah (by rw [qeX];exact qad _)];rfl
def T3St (w:World) (B H _p8 E n F:Nat) (d:List Int) (L:List Rat) (m:Nat) (y:Value) (W:World):Prop :=
 Below B w W/\B<=W.heap.size/\W.heap[H]? = some (.cells #[.slice (some ⟨E,0,none⟩) n F] 22 (0,0))/\FRow W E n (told n (dq d))/\Rws W B 27 2 y m (fflat (L.map ftxt))/\y.ownBlock≠some E
theorem T3St.below {w:World} {B I J H n F m:Nat} {d:List Int} {L:List Rat} {y:Value} {W W':World} (h:T3St w B I J H n F d L m y W) (E:Below W.heap.size W W'):T3St w B I J H n F d L m y W' :=
 ⟨h.1.trans (E.mono h.2.1),qak h.2.1 E.size,zkeep E _ _ h.2.2.1,h.2.2.2.1.below E,h.2.2.2.2.1.below E,h.2.2.2.2.2⟩
theorem qmX (B p5 p8 g5 n c5:Nat) (d:List Int) (w:World) (hB:B<=w.heap.size) (hn:d.length=n) (aZ:n<=3) (hV:qfo d) (aA:∀W,Below B w W->HasT W)
  (h5:w.heap[p5]? = some (.cells #[.slice (some ⟨g5,0,none⟩) n c5] 22 (0,0))) (h8:w.heap[p8]? = some (.cells #[.string (ftxt 1).1,.string (ftxt 1).2] 27 (0,0))) (hF:FRow w g5 n (told n (dq d))) :
  Calls prog 115 #[.pointer (some ⟨p8,0,none⟩),.pointer (some ⟨p5,0,none⟩)] w fun e w'=>∃y,e=.returned y/\Rws w' B 27 2 y (2 ^ n) (fflat ((termL 3 d).map ftxt))/\Below B w w':=by
 have aI:∀k,Short (dq d k):=fun k=>(dq_cd hV k).short (by decide) (by decide +kernel) (by decide +kernel)
 have aH:∀k,k<=3->∀p∈prods d k,Short p:=fun k hk p hp=>(qgc (by decide) (dq_cd hV) k p hp).short (qbu (Nat.pow_pos (by decide))) (qaU (qaO (by decide) hk) qk9) (qaU (qaO (by decide) hk) qk9)
 have HS:=qH (qA aI (qA aH hn));have aM:=qH aA;obtain⟨s1,s2,Z⟩:=qcW 1;rw [Z] at h8;have Hs:=qH Z;have aO:=qC w _ 0 _ _ _ h8;have aP:=qC w _ 1 _ _ _ h8;have HI:=qH (qA h5 hF);clear aI aH hV hn aA h8 Z h5 hF;obtain⟨W1,aS,K1⟩:=nw1 w #[.string s1,.string s2] 27;have k5:=zkeep K1.o.1 _ _ HI.o.1;have I1:Hu (T3St w B p5 p8 g5 n c5 d (prods d 0) 1 (.slice (some ⟨w.heap.size,0,none⟩) 1 1) W1):=by
  refine qH ⟨K1.o.1.mono hB,qak hB K1.o.1.size,k5,HI.o.2.below K1.o.1,?_,?_⟩
  ·rw [show (prods d 0).map ftxt=[(s1,s2)] by rw [<-Hs.o];rfl];exact qoQ K1.o.2 hB
  ·intro e;have e2:w.heap.size=g5:=qag e;have:=(qG HI.o.2.1).1;omega
 have aN:=qC w _ 0 _ _ _ HI.o.1;have aY:=(qG HI.o.1).1;clear k5 K1;go_enter func115,ntmps115;go_wp2_with fail;clear aN aO aP
 go_loopw [3,12] (fun x3 x12 W=>∃(k:Nat),x12=.int .i64 k/\k<=n/\Hu (T3St w B p5 p8 g5 n c5 d (prods d k) (2 ^ k) x3 W)) (fun _ x12 _=>n-(intOf x12).toNat)
 case atStart=>exact⟨0,rfl,qaj _,aS▸I1⟩
 case round =>
  obtain⟨k,rfl,hk,K⟩:=hrel;obtain⟨M,hM⟩:=qX (2 ^ k);have aV:M<=8:=by rw [<-hM];exact qaO (by decide) (show k<=3 by omega)
  have aR:0<M:=by rw [<-hM];exact Nat.pow_pos (by decide)
  have I:((prods d k).map ftxt).length=M:=by rw [qaD,qeX];exact hM
  rw [hM] at K;obtain⟨ao,g6,cy,rfl,ak,_⟩:=qdD K.o.2.2.2.2.1 I;have aU:=ak.addr (by omega);subst aU;have HM:=qH (qA hM (qA I ak));clear hM I ak
  by_cases ax:k<n
  ·have aX:(k:Int)<n:=by omega
   obtain⟨d0,d1⟩:=(K.o.2.2.2.1.cells (qcb _ _)).cell k (by rw [qcb];exact ax);rw [qed ax,qaT] at d0 d1;obtain⟨v1,v2,hv⟩:=qcW (dq d k);rw [hv] at d0 d1;have HV:=qH hv;have bf:=qC wr _ 0 _ _ _ K.o.2.2.1;obtain⟨W2,aT,K2⟩:=nw1 wr #[.string v1,.string v2] 27;have ai:=(qG K2.o.2).1;have J0:Hu (T3St w B p5 p8 g5 n c5 d (half d k 0) (M+0) (.slice (some ⟨g6,0,none⟩) M cy) W2/\W2.heap[wr.heap.size]? = some (.cells #[.string v1,.string v2] 27 (0,0))/\FCells W2 (some ⟨g6,0,none⟩) g6 0 ((prods d k).map ftxt)/\(Value.slice (some ⟨g6,0,none⟩) M cy).ownBlock≠some wr.heap.size) :=
    qH ⟨by rw [qnJ];exact K.o.below K2.o.1,K2.o.2,HM.o.2.2.below K2.o.1,fun e=>by
     have e2:g6=wr.heap.size:=qag e;have:=(K.o.2.2.2.2.1.lt g6 rfl).2;omega⟩
   clear hv ai K2;go_wp2_with fail;obtain⟨b5,aD⟩:∃b,wr.heap.size=b:=⟨_,rfl⟩;rw [aD] at J0 ⊢;clear aD
   go_loopw [3,18] (fun x3 x18 W=>∃(j:Nat),x18=.int .i64 j/\j<=M/\Hu (T3St w B p5 p8 g5 n c5 d (half d k j) (M+j) x3 W/\W.heap[b5]? = some (.cells #[.string v1,.string v2] 27 (0,0))/\FCells W (some ⟨g6,0,none⟩) g6 0 ((prods d k).map ftxt)/\x3.ownBlock≠some b5)) (fun _ x18 _=>M-(intOf x18).toNat)
   case atStart=>exact⟨0,rfl,qaj _,aT▸J0⟩
   case round =>
    obtain⟨j,rfl,hj,J⟩:=hrel;obtain⟨ay,aQ,rfl⟩:=J.o.1.2.2.2.2.1.shape
    by_cases av:j<M
    ·have aW:(j:Int)<M:=by omega
     obtain⟨q0,q1⟩:=J.o.2.2.1.cell j (by rw [HM.o.2.1];exact av);have ae:j<(prods d k).length:=by have:=HM.o.2.1;rw [qaD] at this;omega
     have aG:((prods d k).map ftxt).getD j fd0=ftxt ((prods d k).getD j 0):=by
      rw [qaa,qaa,qaP,qac ae];rfl
     obtain⟨p,hp⟩:=qX ((prods d k).getD j 0);rw [aG,hp,qaT] at q0 q1;obtain⟨p1,p2,Y⟩:=qcW p;rw [Y] at q0 q1;have az:p∈prods d k:=by rw [<-hp,qaa,qac ae];exact qbz ae
     have aj:p*dq d k∈prods d (k+1):=by
      show _∈prods d k++_
      exact qaL.2 (qam (qbb.2 ⟨p,az,rfl⟩))
     obtain⟨z1,z2,hz⟩:=qcW (p*dq d k);have U:=fun (W:World) (h:Below B w W)=>mulq (HS.o.2.1 k (by omega) p az) (HS.o.1 k) (HS.o.2.1 (k+1) (by omega) _ aj) W (aM.o W h)
     rw [Y,HV.o,hz] at U;have aL:=qH U;have HP:=qH (qA hp hz);have r0:=qC wr _ 0 _ _ _ J.o.2.1;have r1:=qC wr _ 1 _ _ _ J.o.2.1;have ai:=(qG J.o.2.1).1;obtain⟨V1,aB,N1⟩:=nw1 wr #[.string p1,.string p2] 27;have J1:=qH (qA (J.o.1.below N1.o.1) (qA (zkeep N1.o.1 _ _ J.o.2.1) (qA (J.o.2.2.1.below N1.o.1) J.o.2.2.2)));clear ae aG hp Y az aj hz U N1;go_wp2_with fail;rw [<-aB];clear aB r0 r1 q0 q1;refine (aL.o V1 J1.o.1.1).mono ?_;rintro e w3 ⟨rfl,aa⟩;have J2:=qH (qA (J1.o.1.below aa) (qA (zkeep aa _ _ J1.o.2.1) (qA (J1.o.2.2.1.below aa) J1.o.2.2.2)));clear aa;go_wp2_with fail;refine (qdY z1 z2 w3).mono ?_;rintro e w4 ⟨rfl,au⟩;obtain⟨V2,aC,N2⟩:=nw1 w4 #[.string z1,.string z2] 27;have H:=au.trans (N2.o.1.mono au.size);have F:=qH (qA (J2.o.1.below H) (qA (zkeep H _ _ J2.o.2.1) (qA (J2.o.2.2.1.below H) J2.o.2.2.2)));obtain⟨y',w5,hr,af,E⟩:=qhH (m:=1) (c:=1) 22 F.o.1.2.2.2.2.1 F.o.1.2.1 (fc_row N2.o.2) rfl (by decide) (by omega);have O:((half d k j).map ftxt++[(z1,z2)]).length=M+j+1:=by
      have h1:=F.o.1.2.2.2.2.1.1;rw [qcK] at h1;rw [qaf];show _+1=_;omega
     have V:=FCells.appended F.o.2.2.1 (by rw [HM.o.2.1];exact aR) O af ⟨(((prods d k).take j).map fun p=>p*dq d k).map ftxt,by unfold half;rw [qbh]⟩ E;obtain⟨r5,_⟩:=qdw F.o.1.2.2.1 (by rintro e;exact absurd (qgb F.o.1.2.2.2.2.1 F.o.1.2.2.1 e) (by decide)) E;obtain⟨rg,aK⟩:=qdw F.o.1.2.2.2.1.1 F.o.1.2.2.2.2.2 E;have aJ:V2.heap.size<=w5.heap.size:=by rcases E with ⟨_,h⟩ | ⟨_,h⟩ <;> exact h.size
     have aF:=qeg F.o.1.1 (fun k hk=>(F.o.1.2.2.2.2.1.lt k hk).1) F.o.1.2.1 E;obtain⟨ag,ah⟩:=qdw F.o.2.1 F.o.2.2.2 E;rw [show (z1,z2)=ftxt ((prods d k).getD j 0*dq d k) by rw [HP.o.1];exact HP.o.2.symm,<-List.map_singleton (f:=ftxt),<-qbh,<-qnI (by rw [HM.o.1];exact av)] at af;have J4:Hu (T3St w B p5 p8 g5 n c5 d (half d k (j+1)) (M+(j+1)) y' w5/\w5.heap[b5]? = some (.cells #[.string v1,.string v2] 27 (0,0))/\FCells w5 (some ⟨g6,0,none⟩) g6 0 ((prods d k).map ftxt)/\y'.ownBlock≠some b5) :=
      qH ⟨⟨aF,qak F.o.1.2.1 aJ,r5,⟨rg,F.o.1.2.2.2.1.2⟩,af,aK⟩,ag,V,ah⟩
     clear au H af E O V r5 rg aK aJ aF ag ah N2;rw [aC] at hr;clear aC
     go_wp2_with ((with_reducible refine qdn rfl (.tmp 22) (.tmp 29) 22 rfl ?_ ?_ hr ?_);(next=>rfl);(next=>rfl))
     go_roundw
     case rel=>exact⟨j+1,by go_num,av,J4⟩
     case measure=>simp [intOf];omega
    ·obtain rfl:j=M:=by omega
     have J1:Hu (T3St w B p5 p8 g5 n c5 d (prods d (k+1)) (2 ^ (k+1)) (.slice ay (j+j) aQ) wr):=qH (by
      have h:=J.o.1;rw [show half d k j=prods d (k+1) by rw [<-HM.o.1];exact half_all d k] at h;rw [show 2 ^ (k+1)=j+j by rw [qaF,HM.o.1];omega];exact h)
     go_wp2;go_roundw
     case rel=>exact⟨k+1,by go_num,ax,J1⟩
     case measure=>simp [intOf];omega
  ·obtain rfl:k=n:=by omega
   go_wp2;go_ret;exact⟨_,rfl,by rw [qpc,HS.o.2.2,HM.o.1];exact K.o.2.2.2.2.1,K.o.1⟩
