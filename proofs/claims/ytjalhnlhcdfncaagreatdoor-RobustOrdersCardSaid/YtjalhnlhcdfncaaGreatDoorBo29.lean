import Derived.Test.YtjalhnlhcdfncaaGreatDoorBo27
import Derived.Test.YtjalhnlhcdfncaaGreatDoorBo28
set_option maxRecDepth 100000
set_option maxHeartbeats 0
namespace Go.Proofs.YtjalhnlhcdfncaaGreatDoor
def Tix (s:Nat->Rat) (x y:Nat):Prop:=s x<s y\/(s x=s y/\x<y)
theorem Tix.trans {s:Nat->Rat} (x y z:Nat) (E:Tix s x y) (F:Tix s y z):Tix s x z:=by
 rcases E with E | ⟨E,H⟩ <;> rcases F with F | ⟨F,I⟩
 ·left;grind
 ·left;grind
 ·left;grind
 ·exact .inr ⟨by grind,by omega⟩
theorem Tix.asymm {s:Nat->Rat} {x y:Nat} (E:Tix s x y):¬Tix s y x:=fun F=>by
 rcases E with E | ⟨E,H⟩ <;> rcases F with F | ⟨F,I⟩
 ·grind
 ·grind
 ·grind
 ·omega
theorem pw_eq {T:Nat->Nat->Prop} (E:∀x y,T x y->¬T y x):∀{l F:List Nat},l.Pairwise T->F.Pairwise T->l.Perm F->l=F
 | [],_,_,_,h=>(List.Perm.nil_eq h)
 | a :: l,[],_,_,h=>absurd h.symm.nil_eq (by simp)
 | a :: l,b :: F,O,U,h=>by
  obtain⟨p1,p2⟩:=qbF.1 O;obtain⟨q1,q2⟩:=qbF.1 U;have I:a=b:=by
   have H:a∈b :: F:=h.mem_iff.1 (qba ..);have J:b∈a :: l:=h.mem_iff.2 (qba ..);rcases qat.1 H with e | H
   ·exact e
   ·rcases qat.1 J with e | J
    ·exact e.symm
    ·exact absurd (q1 a H) (E _ _ (p1 b J))
  subst I;rw [pw_eq E p2 q2 (List.Perm.cons_inv h)]
theorem up_full {K:List Nat} {n:Nat} (h:Up K) (J:K.length=n) (I:∀i∈K,i<n):K=List.range n:=by
 have low:∀j (E:j<K.length),j<=K[j]:=fun j=>by
  induction j with
  | zero=>exact fun _=>qaj _
  | succ j ih =>
   intro E;have F:=ih (by omega);have H:=(List.pairwise_iff_getElem.1 h) j (j+1) (by omega) E (qbU _);omega
 have top:∀d j (E:j<K.length),j+d+1=n->K[j]+d<n:=fun d=>by
  induction d with
  | zero=>exact fun j E _=>I _ (qbz E)
  | succ d ih =>
   intro j E e;have F:=ih (j+1) (by omega) (by omega);have H:=(List.pairwise_iff_getElem.1 h) j (j+1) E (by omega) (qbU _);omega
 refine List.ext_getElem (by rw [qbo];exact J) fun j F H=>?_
 rw [List.getElem_range];have O:=low j F;have a2:=top (n-1-j) j F (by omega);omega
theorem all_perm {l:List Nat} {n:Nat} (U:l.Nodup) (O:l.length=n) (I:∀i∈l,i<n):l.Perm (List.range n):=by
 have E:=qdF (lt:=fun a b:Nat=>a<b) l;have F:Ord (fun a b:Nat=>a<b) (isort (fun a b=>a<b) l):=qhi (fun a b c F H=>by omega) (fun a b h=>by omega) _;have H:(isort (fun a b:Nat=>a<b) l).Nodup:=E.nodup_iff.2 U;have V:Up (isort (fun a b:Nat=>a<b) l):=(List.pairwise_and_iff.2 ⟨F,H⟩).imp fun⟨F,H⟩=>by omega
 rw [<-up_full V (by rw [E.length_eq];exact O) fun i J=>I i (E.mem_iff.1 J)];exact E.symm
theorem qoc {s:Nat->Rat} {n:Nat} {E:Nat->Nat} (h:Mer (Tix s) (fun k=>k) E 0 n):fnl n E=qce s n:=by
 have I:(fnl n E).Pairwise (Tix s):=List.pairwise_iff_getElem.2 fun i j Y V J=>by
  rw [qdC] at Y V;have e:∀k (F:k<(fnl n E).length),(fnl n E)[k]=E k:=fun k F=>by
   have H:=qdd (n:=n) (k:=k) E (by rw [qdC] at F;exact F);rw [qac F] at H;exact qag H
  rw [e,e];exact h.inc i j (qaj _) J V
 have O:∀x∈fnl n E,x<n:=fun x hx=>by
  obtain⟨k,F,rfl⟩:=qbb.1 hx;obtain⟨j,_,j2,e⟩:=h.mem k (qaj _) (qaq.1 F);rw [e];exact j2
 have U:(fnl n E).Nodup:=I.imp fun H e=>by subst e;exact H.asymm H
 refine pw_eq (fun _ _ h=>h.asymm) I ((qfa s n).imp fun h=>?_) ((all_perm U (qdC n E) O).trans (qcF s n).symm);unfold Tix
 grind
theorem qow (s:Nat->Rat) (a b:Nat):Par (Tix s) (fun x y=>s x<s y) (fun k=>k) a b:=fun i j _ E _=>by
 show (s j<s i↔Tix s j i)/\(¬Tix s j i->Tix s i j)
 refine⟨⟨fun h=>.inl h,fun h=>?_⟩,fun h=>?_⟩
 ·rcases h with h | ⟨_,h⟩
  ·exact h
  ·omega
 ·unfold Tix at h ⊢
  grind
theorem qmr {s:Nat->Rat} {O E:Nat->Nat} {m n:Nat} (U:Mer (Tix s) (fun k=>k) O 0 m) (V:Mer (Tix s) O E m n):Mst (Tix s) (fun x y=>s x<s y) E 0 m n:=by
 have hl:∀k,k<m->E k=O k:=fun k I=>V.o k (by omega)
 have J:∀k,k<m->E k<m:=fun k I=>by
  obtain⟨j,_,j2,e⟩:=U.mem k (qaj _) I;rw [hl k I,e];exact j2
 have H:∀k,m<=k->k<n->m<=E k:=fun k I aa=>by
  obtain⟨j,j1,j2,e⟩:=V.mem k I aa;rw [e,U.o j (by omega)];exact j1
 refine⟨U.inc.congr fun k _ F=>hl k F,V.inc,fun i j _ F Y Z=>⟨fun h=>.inl h,fun h=>?_⟩,fun i j _ F Y Z h=>?_⟩
 ·rcases h with h | ⟨_,h⟩
  ·exact h
  ·have:=J i F;have:=H j Y Z;omega
 ·have a1:=J i F;have a2:=H j Y Z;unfold Tix at h ⊢;have a3:E i<E j:=by omega
  grind
open Go.RowKit Go.Proofs.Tryz
theorem qo9 (T lt:Nat->Nat->Prop) [DecidableRel lt] (ht:∀x y z,T x y->T y z->T x z) (cf:Nat->Nat->Int) (F:Nat) (cb:Array Value) (B g n c:Nat) (l:List Nat) (hn:n<=1000) (aC:∀x∈l,∀y∈l,cf x y<0↔lt x y)
  (hF:∀a b W,(callFunc F (#[a,b]++cb)).run prog W=.ok (.enter F (#[a,b]++cb)) W) (N a m b:Nat) (f:Nat->Nat) (w:World) (aJ:m=a+1):b-a<=N->a<m->m<b->b<=n->NatR w B g n c (fnl n f)->(∀k,k<n->f k∈l)->Mst T lt f a m b->CmpOk F cb g l cf w ->
   Calls prog 204 #[.slice (some ⟨g,0,none⟩) n c,.int .i64 (a:Int),.int .i64 (m:Int),.int .i64 (b:Int),.func (.func F) #[] cb] w fun e w'=>e=.returned (.tuple #[])/\w.grownBy w' (some g)/\∃f',NatR w' B g n c (fnl n f')/\Mer T f f' a b:=by
  intro aV aB bA aY hO aD hM hC;have Y:=qH (qA hC (qA aC (qA ht (qA aD hM))));have H0:=qH hO;clear hC aC ht aD hM hO;go_enter func204,ntmps204
  ·have aR:(m:Int)-(a:Int)=1:=by omega
   have HM:=qH aJ;clear aJ;go_wp2_with fail;clear aR
   go_loopw [10,11] (fun x10 x11 W=>∃i j:Nat,x10=.int .i64 (i:Int)/\x11=.int .i64 (j:Int)/\m<=i/\i<=j/\j<=b/\Hu ((∀k,m<=k->k<i->lt (f k) (f a))/\(∀k,j<=k->k<b->¬lt (f k) (f a))/\NatR W B g n c (fnl n f)/\w.grownBy W (some g))) (fun x10 x11 _=>(intOf x11).toNat-(intOf x10).toNat)
   case atStart=>exact⟨m,b,rfl,rfl,qad _,by omega,qad _,qH ⟨fun k h1 h2=>absurd h1 (by omega),fun k h1 h2=>absurd h1 (by omega),H0.o,qcw _ _⟩⟩
   case round =>
    obtain⟨i,j,rfl,rfl,aS,bi,aO,hS⟩:=hrel
    by_cases bz:i<j
    ·have aN:(i:Int)<(j:Int):=by omega
     obtain⟨h,hh⟩:∃z,(i+j) / 2=z:=⟨_,rfl⟩;have aX:i<=h/\h<j:=by omega
     have aZ:((i:Int)+(j:Int)) / 2=(h:Int):=by omega
     have ae:i<=1000/\j<=1000:=by omega
     have bC:IntKind.i64.wrap (h:Int)=(h:Int):=by rw [IntKind.wrap_i64];omega
     have bB:IntKind.i64.wrap (a:Int)=(a:Int):=by rw [IntKind.wrap_i64];omega
     have bf:(h:Int)<(n:Int):=by omega
     have aW:(a:Int)<(n:Int):=by omega
     have E:=hS.o.2.2.1;have H:=hS.o.2.2.2;clear hh;obtain⟨x,hx⟩:=qX (f h);obtain⟨y,hy⟩:=qX (f a);have J:=qdd (n:=n) f (show h<n by omega);have O:=qdd (n:=n) f (show a<n by omega);rw [hx] at J;rw [hy] at O;obtain⟨cx,fx⟩:=E.at J;obtain⟨cy,fy⟩:=E.at O;have aF:=qae wr _ cx;have bx:∀W,Below wr.heap.size wr W->W.cell? ⟨g,h,none⟩=some (.int .i64 (x:Int)):=fun W U=>(U.cell (p:=⟨g,h,none⟩) aF).trans cx
     have bY:∀W,Below wr.heap.size wr W->W.cell? ⟨g,a,none⟩=some (.int .i64 (y:Int)):=fun W U=>(U.cell (p:=⟨g,a,none⟩) aF).trans cy
     have ak:x∈l:=hx▸Y.o.2.2.2.1 _ (show h<n by omega);have au:y∈l:=hy▸Y.o.2.2.2.1 _ (show a<n by omega);have HK:=qH (Y.o.1 wr.drew (qb5 H (keepB qB.drew)) x ak y au);have Z:=qH (qA (Y.o.2.1 x ak y au) (qA hx (qA hy (qA E H))));clear J O cx fx cy fy ak au E H hx hy;go_wp2_with fail;refine wp_region_held_drew (S:=fun W=>Below wr.heap.size wr W) (by kernel_rfl) qB.drew (fun hS0=>?_);refine hT 0 (hB:=by as_aux_lemma=>kernel_rfl) (h:=hT 1 (hB:=by as_aux_lemma=>kernel_rfl) (h:=hT 2 (hB:=by as_aux_lemma=>kernel_rfl) (h:=hT 3 (hB:=by as_aux_lemma=>kernel_rfl) (h:=hT 4 (hB:=by as_aux_lemma=>kernel_rfl) (h:=hT 5 (hB:=by as_aux_lemma=>kernel_rfl) (h:=hT 6 (hB:=by as_aux_lemma=>kernel_rfl) (h:=hT 7 (hB:=by as_aux_lemma=>kernel_rfl) (h:=hT 8 (hB:=by as_aux_lemma=>kernel_rfl) (h:=?_)))))))));refine hC 9 HK.o (hr:=by as_aux_lemma=>kernel_rfl) (h:=?_);rintro e w2 ⟨rfl,ae⟩;have I:=qcm ae;refine⟨_,rfl,I,hN (h:=?_)⟩;have HW:=qH (qA (Z.o.2.2.2.1.below I) (qb5 Z.o.2.2.2.2 (keepB I)))
     by_cases af:cf x y<0
     ·refine hT 10 (hS:=I) (hB:=by as_aux_lemma=>kernel_rfl) (h:=?_);refine wpAnyH_done (by kernel_rfl) ?_ _;have hL:lt (f h) (f a):=by rw [Z.o.2.1,Z.o.2.2.1];exact Z.o.1.1 af
      have HL:=qH hL;clear I ae hS0 bx bY af HK hL Z;go_wp2;go_roundw
      case rel=>exact⟨h+1,j,by go_num,rfl,by omega,by omega,aO,qH ⟨fun k h1 h2=>Y.o.2.2.2.2.down Y.o.2.2.1 qN aB h1 (show k<=h by omega) (by omega) HL.o,hS.o.2.1,HW.o.1,HW.o.2⟩⟩
      case measure=>simp [intOf];omega
     ·refine hT 10 (hS:=I) (hB:=by as_aux_lemma=>kernel_rfl) (h:=?_);refine wpAnyH_done (by kernel_rfl) ?_ _;have hL:¬lt (f h) (f a):=fun h=>af (Z.o.1.2 (by rw [Z.o.2.1,Z.o.2.2.1] at h;exact h))
      have HL:=qH hL;clear I ae hS0 bx bY af HK hL Z;go_wp2;go_roundw
      case rel=>exact⟨i,h,rfl,rfl,aS,by omega,by omega,qH ⟨hS.o.1,fun k h1 h2 h3=>HL.o (Y.o.2.2.2.2.down Y.o.2.2.1 qN aB (by omega) h1 h2 h3),HW.o.1,HW.o.2⟩⟩
      case measure=>simp [intOf];omega
    ·obtain rfl:i=j:=by omega
     have aN:¬(i:Int)<(i:Int):=by omega
     have aG:(i:Int)-1=((i-1:Nat):Int):=by omega
     obtain⟨e1,aM⟩:∃z,i-1=z:=⟨_,rfl⟩;rw [aM] at aG;have HX:=qH (qA hS.o.1 hS.o.2.1);have HZ:Hu (∃d,d=rot f a (a+1) (a+1)/\NatR wr B g n c (fnl n d)/\w.grownBy wr (some g)):=qH ⟨_,rfl,by rw [qmM];exact hS.o.2.2.1,hS.o.2.2.2⟩;clear hS;go_wp2_with fail;clear aG
     go_loopw [13] (fun x13 W=>∃k:Nat,x13=.int .i64 (k:Int)/\a<=k/\k<=e1/\Hu (∃d,d=rot f a (a+1) (k+1)/\NatR W B g n c (fnl n d)/\w.grownBy W (some g))) (fun x13 _=>e1-(intOf x13).toNat)
     case atStart=>exact⟨a,rfl,qad _,by omega,HZ⟩
     case round =>
      obtain⟨k,rfl,aL,bu,hS⟩:=hrel;have bg:(i:Int)-1=(e1:Int):=by omega
      by_cases bv:k<e1
      ·have aQ:(k:Int)<(e1:Int):=by omega
       obtain⟨d,hd,E,H⟩:=hS.o;have HD:=qH hd;obtain⟨V,aP⟩:∃z,k+1=z:=⟨_,rfl⟩;have aT:(k:Int)+1=(V:Int):=by omega
       have aK:=qH aP;clear hd hS;have aH:k<n:=by omega
       have aI:V<n:=by omega
       have bn:(k:Int)<(n:Int):=by omega
       have bq:(V:Int)<(n:Int):=by omega
       have bD:IntKind.i64.wrap (k:Int)=(k:Int):=by rw [IntKind.wrap_i64];omega
       have bE:IntKind.i64.wrap (V:Int)=(V:Int):=by rw [IntKind.wrap_i64];omega
       obtain⟨x,hx⟩:=qX (d k);obtain⟨y,hy⟩:=qX (d V);have J:=qdd (n:=n) d aH;have O:=qdd (n:=n) d aI;rw [hx] at J;rw [hy] at O;have HA:=qH (qA J (qA O (qA hx hy)));have HR:=qH (show NatR wr.drew B g n c (fnl n d)/\w.grownBy wr.drew (some g) from ⟨E.below qB.drew,qb5 H (keepB qB.drew)⟩);clear J O hx hy E H;go_wp2_with fail;refine wp_region_held_drew (S:=fun _=>True) (by kernel_rfl) trivial (fun hS0=>?_);refine hT 0 (h:=hT 1 (h:=hT 2 (h:=hT 3 (h:=hT 4 (h:=hT 5 (h:=hT 6 (h:=hT 7 (h:=hT 8 (h:=hT 10 (h:=hT 11 (h:=hT 12 (h:=?_))))))))))));refine Go.Proofs.YtjalhnlhcdfncaaGreatDoor.gr [(9,70),(13,74),(14,75)] [] [0,1,2,3,4,5,6,7,8,10,11,12] [9,13,14] [] 15 18 (fl2 [(9,fun z _=>z=.int .i64 (y:Int)),(13,fun z _=>z=.int .i64 (x:Int)),(14,fun z _=>z=.pointer (some ⟨g,k,none⟩))]) _ 3
        (hS:=fun _ _=>trivial) (hstep:=⟨⟨_,rfl,fun v w3 U hF K hK=>?_⟩,⟨_,rfl,fun v w3 U hF K hK=>?_⟩,⟨_,rfl,fun v w3 U hF K hK=>?_⟩,trivial⟩) (hend:=fun v w3 U hF _ fu=>?_)
       ·have h0:=((HR.o.1.below U).at HA.o.2.1).1;exact gV hK rfl
       ·have h0:=((HR.o.1.below U).at HA.o.1).1;exact gV hK rfl
       ·exact gV hK rfl
       have e9:v 9=_:=hF 9 (by decide) (by decide);have av:v 13=_:=hF 13 (by decide) (by decide);have ax:v 14=_:=hF 14 (by decide) (by decide);rw [e9,av,ax];have ai:=HR.o.1.below U;have ay:=qb5 HR.o.2 (keepB U);obtain⟨h0,h1⟩:=ai.at HA.o.1;have aa:=ai.set aH y;have ah:=qb5 ay (qb7 w3 g k (.int .i64 (y:Int)));refine hSg 15 (h:=⟨trivial,?_⟩);obtain⟨W5,aA⟩:=qY (w3.setCell ⟨g,k,none⟩ (.int .i64 (y:Int)));rw [<-aA] at aa ah ⊢;have hne:((fnl n d).set k y)[V]? = some y:=by rw [qbQ (by omega)];exact HA.o.2.1
       obtain⟨h2,h3⟩:=aa.at hne;have aj:=aa.set aI x;have az:=qb5 ah (qb7 W5 g V (.int .i64 (x:Int)));have ag:((fnl n d).set k y).set V x=fnl n (rot f a (a+1) (V+1)):=by
        rw [<-HA.o.2.2.1,<-HA.o.2.2.2,qgS,HD.o];exact congrArg (fnl n) (by rw [<-aK.o];exact shift_up aL)
       rw [ag] at aj;have HE:=qH (qA aj az);clear aA h0 h1 ai ay aa ah aj az hne e9 av ax U hF ag;refine hT 16 (hS:=trivial) (h:=?_);refine hSg 17 (h:=⟨trivial,?_⟩);refine wpAnyH_done (by kernel_rfl) ?_ _;clear h2 h3 hS0;go_wp2;go_roundw
       case rel=>exact⟨V,by go_num,by omega,by omega,qH ⟨_,rfl,HE.o⟩⟩
       case measure=>simp [intOf] <;> omega
      ·have aQ:¬(k:Int)<(e1:Int):=by omega
       have HE:Hu (w.grownBy wr (some g)/\∃f',NatR wr B g n c (fnl n f')/\Mer T f f' a b):=qH (by
        obtain⟨d,hd,E,H⟩:=hS.o;refine⟨H,d,E,?_⟩;have aU:=HM.o;rw [hd,show k+1=i by omega];exact mer_left Y.o.2.2.1 (by rw [<-HM.o];exact Y.o.2.2.2.2) (by omega) (by omega) (fun k h1 h2=>HX.o.1 k (by omega) h2) HX.o.2)
       clear hS;go_wp2_with fail;exact qR (results_none rfl _ _ _) rfl ⟨rfl,HE.o⟩
theorem qmU (T lt:Nat->Nat->Prop) [DecidableRel lt] (ht:∀x y z,T x y->T y z->T x z) (cf:Nat->Nat->Int) (F:Nat) (cb:Array Value) (B g n c:Nat) (l:List Nat) (hn:n<=1000) (aC:∀x∈l,∀y∈l,cf x y<0↔lt x y)
  (hF:∀a b W,(callFunc F (#[a,b]++cb)).run prog W=.ok (.enter F (#[a,b]++cb)) W) (N a m b:Nat) (f:Nat->Nat) (w:World) (bz:¬m=a+1) (aI:b=m+1):b-a<=N->a<m->m<b->b<=n->NatR w B g n c (fnl n f)->(∀k,k<n->f k∈l)->Mst T lt f a m b->CmpOk F cb g l cf w ->
   Calls prog 204 #[.slice (some ⟨g,0,none⟩) n c,.int .i64 (a:Int),.int .i64 (m:Int),.int .i64 (b:Int),.func (.func F) #[] cb] w fun e w'=>e=.returned (.tuple #[])/\w.grownBy w' (some g)/\∃f',NatR w' B g n c (fnl n f')/\Mer T f f' a b:=by
  intro aT aU aJ aW hO aD hM hC;have Z:=qH (qA hC (qA aC (qA ht (qA aD hM))));have H0:=qH hO;clear hC aC ht aD hM hO;go_enter func204,ntmps204;obtain⟨ma,bB⟩:∃z,m-a=z:=⟨_,rfl⟩;have aQ:(m:Int)-(a:Int)=(ma:Int):=by omega
  have aR:ma≠1:=by omega
  have bA:((ma:Int) == 1)=false:=beq_false_of_ne (by omega)
  ·have aL:(b:Int)-(m:Int)=1:=by omega
   have HM:=qH aI;clear aI;go_wp2_with fail;clear aL
   go_loopw [14,15] (fun x14 x15 W=>∃i j:Nat,x14=.int .i64 (i:Int)/\x15=.int .i64 (j:Int)/\a<=i/\i<=j/\j<=m/\Hu ((∀k,a<=k->k<i->¬lt (f m) (f k))/\(∀k,j<=k->k<m->lt (f m) (f k))/\NatR W B g n c (fnl n f)/\w.grownBy W (some g))) (fun x14 x15 _=>(intOf x15).toNat-(intOf x14).toNat)
   case atStart=>exact⟨a,m,rfl,rfl,qad _,by omega,qad _,qH ⟨fun k h1 h2=>absurd h1 (by omega),fun k h1 h2=>absurd h1 (by omega),H0.o,qcw _ _⟩⟩
   case round =>
    obtain⟨i,j,rfl,rfl,aK,aZ,aN,hS⟩:=hrel
    by_cases bv:i<j
    ·have aM:(i:Int)<(j:Int):=by omega
     obtain⟨h,hh⟩:∃z,(i+j) / 2=z:=⟨_,rfl⟩;have aV:i<=h/\h<j:=by omega
     have aX:((i:Int)+(j:Int)) / 2=(h:Int):=by omega
     have ae:i<=1000/\j<=1000:=by omega
     have bD:IntKind.i64.wrap (h:Int)=(h:Int):=by rw [IntKind.wrap_i64];omega
     have bG:IntKind.i64.wrap (m:Int)=(m:Int):=by rw [IntKind.wrap_i64];omega
     have aY:(h:Int)<(n:Int):=by omega
     have bC:(m:Int)<(n:Int):=by omega
     have E:=hS.o.2.2.1;have I:=hS.o.2.2.2;clear hh;obtain⟨x,hx⟩:=qX (f m);obtain⟨y,hy⟩:=qX (f h);have J:=qdd (n:=n) f (show m<n by omega);have O:=qdd (n:=n) f (show h<n by omega);rw [hx] at J;rw [hy] at O;obtain⟨cx,fx⟩:=E.at J;obtain⟨cy,fy⟩:=E.at O;have aF:=qae wr _ cx;have bx:∀W,Below wr.heap.size wr W->W.cell? ⟨g,m,none⟩=some (.int .i64 (x:Int)):=fun W U=>(U.cell (p:=⟨g,m,none⟩) aF).trans cx
     have bY:∀W,Below wr.heap.size wr W->W.cell? ⟨g,h,none⟩=some (.int .i64 (y:Int)):=fun W U=>(U.cell (p:=⟨g,h,none⟩) aF).trans cy
     have ak:x∈l:=hx▸Z.o.2.2.2.1 _ (show m<n by omega);have au:y∈l:=hy▸Z.o.2.2.2.1 _ (show h<n by omega);have HK:=qH (Z.o.1 wr.drew (qb5 I (keepB qB.drew)) x ak y au);have Y:=qH (qA (Z.o.2.1 x ak y au) (qA hx (qA hy (qA E I))));clear J O cx fx cy fy ak au E I hx hy;go_wp2_with fail;refine wp_region_held_drew (S:=fun W=>Below wr.heap.size wr W) (by kernel_rfl) qB.drew (fun hS0=>?_);refine hT 0 (hB:=by as_aux_lemma=>kernel_rfl) (h:=hT 1 (hB:=by as_aux_lemma=>kernel_rfl) (h:=hT 2 (hB:=by as_aux_lemma=>kernel_rfl) (h:=hT 3 (hB:=by as_aux_lemma=>kernel_rfl) (h:=hT 4 (hB:=by as_aux_lemma=>kernel_rfl) (h:=hT 5 (hB:=by as_aux_lemma=>kernel_rfl) (h:=hT 6 (hB:=by as_aux_lemma=>kernel_rfl) (h:=hT 7 (hB:=by as_aux_lemma=>kernel_rfl) (h:=hT 8 (hB:=by as_aux_lemma=>kernel_rfl) (h:=?_)))))))));refine hC 9 HK.o (hr:=by as_aux_lemma=>kernel_rfl) (h:=?_);rintro e w2 ⟨rfl,ae⟩;have H:=qcm ae;refine⟨_,rfl,H,hN (h:=?_)⟩;have HW:=qH (qA (Y.o.2.2.2.1.below H) (qb5 Y.o.2.2.2.2 (keepB H)))
     by_cases af:cf x y<0
     ·refine hT 10 (hS:=H) (hB:=by as_aux_lemma=>kernel_rfl) (h:=hT 11 (hS:=H) (hB:=by as_aux_lemma=>kernel_rfl) (h:=?_));refine wpAnyH_done (by kernel_rfl) ?_ _;have hL:lt (f m) (f h):=by rw [Y.o.2.1,Y.o.2.2.1];exact Y.o.1.1 af
      have HL:=qH hL;clear H ae hS0 bx bY af HK hL Y;go_wp2;go_roundw
      case rel=>exact⟨i,h,rfl,rfl,aK,by omega,by omega,qH ⟨hS.o.1,fun k h1 h2=>Z.o.2.2.2.2.up Z.o.2.2.1 qN aJ (show a<=h by omega) h1 h2 HL.o,HW.o.1,HW.o.2⟩⟩
      case measure=>simp [intOf];omega
     ·refine hT 10 (hS:=H) (hB:=by as_aux_lemma=>kernel_rfl) (h:=hT 11 (hS:=H) (hB:=by as_aux_lemma=>kernel_rfl) (h:=?_));refine wpAnyH_done (by kernel_rfl) ?_ _;have hL:¬lt (f m) (f h):=fun h=>af (Y.o.1.2 (by rw [Y.o.2.1,Y.o.2.2.1] at h;exact h))
      have HL:=qH hL;clear H ae hS0 bx bY af HK hL Y;go_wp2;go_roundw
      case rel=>exact⟨h+1,j,by go_num,rfl,by omega,by omega,aN,qH ⟨fun k h1 h2 h3=>HL.o (Z.o.2.2.2.2.up Z.o.2.2.1 qN aJ h1 (show k<=h by omega) (by omega) h3),hS.o.2.1,HW.o.1,HW.o.2⟩⟩
      case measure=>simp [intOf];omega
    ·obtain rfl:i=j:=by omega
     have aM:¬(i:Int)<(i:Int):=by omega
     have HX:=qH (qA hS.o.1 hS.o.2.1);have HZ:Hu (∃d,d=rot f m m (m+1)/\NatR wr B g n c (fnl n d)/\w.grownBy wr (some g)):=qH ⟨_,rfl,by rw [qoX];exact hS.o.2.2.1,hS.o.2.2.2⟩;clear hS;go_wp2_with fail
     go_loopw [17] (fun x17 W=>∃k:Nat,x17=.int .i64 (k:Int)/\i<=k/\k<=m/\Hu (∃d,d=rot f k m (m+1)/\NatR W B g n c (fnl n d)/\w.grownBy W (some g))) (fun x17 _=>(intOf x17).toNat)
     case atStart=>exact⟨m,rfl,by omega,qad _,HZ⟩
     case round =>
      obtain⟨k,rfl,bf,bu,hS⟩:=hrel
      by_cases bq:i<k
      ·have aO:(i:Int)<(k:Int):=by omega
       obtain⟨d,hd,E,I⟩:=hS.o;have HD:=qH hd;obtain⟨V,bn⟩:∃z,k-1=z:=⟨_,rfl⟩;have aP:(k:Int)-1=(V:Int):=by omega
       have av:Hu (V+1=k):=qH (by omega);clear hd hS;have aG:k<n:=by omega
       have aH:V<n:=by omega
       have bg:(k:Int)<(n:Int):=by omega
       have bi:(V:Int)<(n:Int):=by omega
       have bE:IntKind.i64.wrap (k:Int)=(k:Int):=by rw [IntKind.wrap_i64];omega
       have bF:IntKind.i64.wrap (V:Int)=(V:Int):=by rw [IntKind.wrap_i64];omega
       obtain⟨x,hx⟩:=qX (d k);obtain⟨y,hy⟩:=qX (d V);have J:=qdd (n:=n) d aG;have O:=qdd (n:=n) d aH;rw [hx] at J;rw [hy] at O;have HA:=qH (qA J (qA O (qA hx hy)));have HR:=qH (show NatR wr.drew B g n c (fnl n d)/\w.grownBy wr.drew (some g) from ⟨E.below qB.drew,qb5 I (keepB qB.drew)⟩);clear J O hx hy E I;go_wp2_with fail;refine wp_region_held_drew (S:=fun _=>True) (by kernel_rfl) trivial (fun hS0=>?_);refine hT 0 (h:=hT 1 (h:=hT 2 (h:=hT 3 (h:=hT 4 (h:=hT 5 (h:=hT 6 (h:=hT 7 (h:=hT 8 (h:=hT 10 (h:=hT 11 (h:=hT 12 (h:=?_))))))))))));refine Go.Proofs.YtjalhnlhcdfncaaGreatDoor.gr [(9,122),(13,126),(14,127)] [] [0,1,2,3,4,5,6,7,8,10,11,12] [9,13,14] [] 15 18 (fl2 [(9,fun z _=>z=.int .i64 (y:Int)),(13,fun z _=>z=.int .i64 (x:Int)),(14,fun z _=>z=.pointer (some ⟨g,k,none⟩))]) _ 3
        (hS:=fun _ _=>trivial) (hstep:=⟨⟨_,rfl,fun v w3 U hF K hK=>?_⟩,⟨_,rfl,fun v w3 U hF K hK=>?_⟩,⟨_,rfl,fun v w3 U hF K hK=>?_⟩,trivial⟩) (hend:=fun v w3 U hF _ fu=>?_)
       ·have h0:=((HR.o.1.below U).at HA.o.2.1).1;exact gV hK rfl
       ·have h0:=((HR.o.1.below U).at HA.o.1).1;exact gV hK rfl
       ·exact gV hK rfl
       have e9:v 9=_:=hF 9 (by decide) (by decide);have ax:v 13=_:=hF 13 (by decide) (by decide);have ay:v 14=_:=hF 14 (by decide) (by decide);rw [e9,ax,ay];have ai:=HR.o.1.below U;have az:=qb5 HR.o.2 (keepB U);obtain⟨h0,h1⟩:=ai.at HA.o.1;have aa:=ai.set aG y;have ah:=qb5 az (qb7 w3 g k (.int .i64 (y:Int)));refine hSg 15 (h:=⟨trivial,?_⟩);obtain⟨W5,aB⟩:=qY (w3.setCell ⟨g,k,none⟩ (.int .i64 (y:Int)));rw [<-aB] at aa ah ⊢;have hne:((fnl n d).set k y)[V]? = some y:=by rw [qbQ (by omega)];exact HA.o.2.1
       obtain⟨h2,h3⟩:=aa.at hne;have aj:=aa.set aH x;have aA:=qb5 ah (qb7 W5 g V (.int .i64 (x:Int)));have ag:((fnl n d).set k y).set V x=fnl n (rot f V m (m+1)):=by
        rw [<-HA.o.2.2.1,<-HA.o.2.2.2,qgS,HD.o];exact congrArg (fnl n) (by rw [<-av.o];exact qir (by have:=av.o;omega))
       rw [ag] at aj;have HE:=qH (qA aj aA);clear aB h0 h1 ai az aa ah aj aA hne e9 ax ay U hF ag;refine hT 16 (hS:=trivial) (h:=?_);refine hSg 17 (h:=⟨trivial,?_⟩);refine wpAnyH_done (by kernel_rfl) ?_ _;clear h2 h3 hS0;go_wp2;go_roundw
       case rel=>exact⟨V,by go_num,by omega,by omega,qH ⟨_,rfl,HE.o⟩⟩
       case measure=>simp [intOf] <;> omega
      ·have aO:¬(i:Int)<(k:Int):=by omega
       have HE:Hu (w.grownBy wr (some g)/\∃f',NatR wr B g n c (fnl n f')/\Mer T f f' a b):=qH (by
        obtain⟨d,hd,E,I⟩:=hS.o;refine⟨I,d,E,?_⟩;have aS:=HM.o;rw [hd,show k=i by omega,HM.o];exact qjx (by rw [<-HM.o];exact Z.o.2.2.2.2) (by omega) (by omega) HX.o.1 HX.o.2)
       clear hS;go_wp2_with fail;exact qR (results_none rfl _ _ _) rfl ⟨rfl,HE.o⟩
theorem symm_gen (T lt:Nat->Nat->Prop) [DecidableRel lt] (ht:∀x y z,T x y->T y z->T x z) (cf:Nat->Nat->Int) (F:Nat) (cb:Array Value) (B g n c:Nat) (l:List Nat) (hn:n<=1000) (aK:∀x∈l,∀y∈l,cf x y<0↔lt x y)
  (hF:∀a b W,(callFunc F (#[a,b]++cb)).run prog W=.ok (.enter F (#[a,b]++cb)) W) (N a m b:Nat) (f:Nat->Nat) (w:World) (bK:¬m=a+1) (bM:¬b=m+1)
  (IH:∀(a m b:Nat) (f:Nat->Nat) (w:World),b-a<=N->a<m->m<b->b<=n->NatR w B g n c (fnl n f)->(∀k,k<n->f k∈l)->Mst T lt f a m b->CmpOk F cb g l cf w ->
   Calls prog 204 #[.slice (some ⟨g,0,none⟩) n c,.int .i64 (a:Int),.int .i64 (m:Int),.int .i64 (b:Int),.func (.func F) #[] cb] w fun e w'=>e=.returned (.tuple #[])/\w.grownBy w' (some g)/\∃f',NatR w' B g n c (fnl n f')/\Mer T f f' a b):b-a<=N+1->a<m->m<b->b<=n->NatR w B g n c (fnl n f)->(∀k,k<n->f k∈l)->Mst T lt f a m b->CmpOk F cb g l cf w ->
   Calls prog 204 #[.slice (some ⟨g,0,none⟩) n c,.int .i64 (a:Int),.int .i64 (m:Int),.int .i64 (b:Int),.func (.func F) #[] cb] w fun e w'=>e=.returned (.tuple #[])/\w.grownBy w' (some g)/\∃f',NatR w' B g n c (fnl n f')/\Mer T f f' a b:=by
  intro bC aS aY aU hO aL hM hC;have HI:=qH IH;clear IH;have Z:=qH (qA hC (qA aK (qA ht (qA aL hM))));have H0:=qH hO;clear hC aK ht aL hM hO;go_enter func204,ntmps204;obtain⟨ma,aX⟩:∃z,m-a=z:=⟨_,rfl⟩;have bu:(m:Int)-(a:Int)=(ma:Int):=by omega
  have aN:ma≠1:=by omega
  have bL:((ma:Int) == 1)=false:=beq_false_of_ne (by omega);obtain⟨bm,aT⟩:∃z,b-m=z:=⟨_,rfl⟩;have bq:(b:Int)-(m:Int)=(bm:Int):=by omega
  have bN:((bm:Int) == 1)=false:=beq_false_of_ne (by omega);obtain⟨E,aO⟩:∃z,(a+b) / 2=z:=⟨_,rfl⟩;have aZ:((a:Int)+(b:Int)) / 2=(E:Int):=by omega
  have bD:a+4<=b:=by omega
  have ai:a<E/\E<b:=by omega
  obtain⟨nn,aP⟩:∃z,E+m=z:=⟨_,rfl⟩;have bz:(E:Int)+(m:Int)=(nn:Int):=by omega
  obtain⟨p,hp⟩:∃z,nn-1=z:=⟨_,rfl⟩;have bg:(nn:Int)-1=(p:Int):=by omega
  have bP:a<=1000/\b<=1000/\m<=1000/\nn<=2000:=by omega
  have HN:=qH (qA aP (show p+1=nn by omega));clear aX aN aT aO hp aP
  go_upto_if 140 with fail
  go_cut [20,21] (fun x20 x21 W=>∃s0 r0:Nat,x20=.int .i64 (s0:Int)/\x21=.int .i64 (r0:Int)/\Hu (W=w/\a<=s0/\nn<=b+s0/\r0<=E/\r0<=m/\s0<=r0/\(r0=E\/r0=m)/\(s0=a\/s0+b=nn)))
  case first =>
   as_aux_lemma =>
   by_cases bG:E<m
   ·have aV:(E:Int)<(m:Int):=by omega
    obtain⟨nb,bf⟩:∃z,nn-b=z:=⟨_,rfl⟩;have bv:(nn:Int)-(b:Int)=(nb:Int):=by have:=HN.o.1;omega
    have HX:Hu (a<=nb/\nn<=b+nb/\E<=m/\nb<=E/\(nb=a\/nb+b=nn)):=qH (by have:=HN.o.1;omega);clear bf;go_wp2;go_meet;exact⟨nb,E,rfl,rfl,qH ⟨rfl,HX.o.1,HX.o.2.1,qad _,HX.o.2.2.1,HX.o.2.2.2.1,.inl rfl,HX.o.2.2.2.2⟩⟩
   ·have aV:¬(E:Int)<(m:Int):=by omega
    have HX:Hu (nn<=b+a/\m<=E/\a<=m):=qH (by have:=HN.o.1;omega);go_wp2;go_meet;exact⟨a,m,rfl,rfl,qH ⟨rfl,qad _,HX.o.1,HX.o.2.1,qad _,HX.o.2.2,.inr rfl,.inl rfl⟩⟩
  case rest =>
   obtain⟨s0,r0,rfl,rfl,aj⟩:=hcut;have H1:Hu (NatR wc B g n c (fnl n f)/\w.grownBy wc (some g)):=qH (by rw [aj.o.1];exact⟨H0.o,qcw _ _⟩);have HS:=qH aj.o.2;have aR:s0<=r0/\r0<=m/\r0<=E/\a<=s0/\nn<=b+s0:=by have:=aj.o.2;omega
   clear aj H0;go_wp2_with fail;clear bg
   go_loopw [20,21] (fun x20 x21 W=>∃s r:Nat,x20=.int .i64 (s:Int)/\x21=.int .i64 (r:Int)/\s0<=s/\s<=r/\r<=r0/\Hu ((∀k,s0<=k->k<s->¬lt (f (p-k)) (f k))/\(∀k,r<=k->k<r0->lt (f (p-k)) (f k))/\NatR W B g n c (fnl n f)/\w.grownBy W (some g))) (fun x20 x21 _=>(intOf x21).toNat-(intOf x20).toNat)
   case atStart=>exact⟨s0,r0,rfl,rfl,qad _,aR.1,qad _,qH ⟨fun k H h2=>absurd H (by omega),fun k H h2=>absurd H (by omega),H1.o⟩⟩
   case round =>
    obtain⟨s,r,rfl,rfl,bn,bQ,bi,hS⟩:=hrel
    by_cases bJ:s<r
    ·have aW:(s:Int)<(r:Int):=by omega
     obtain⟨h,hh⟩:∃z,(s+r) / 2=z:=⟨_,rfl⟩;have bE:s<=h/\h<r:=by omega
     have bH:((s:Int)+(r:Int)) / 2=(h:Int):=by omega
     have au:s<=1000/\r<=1000:=by omega
     obtain⟨pc,aQ⟩:∃z,p-h=z:=⟨_,rfl⟩;have bA:(p:Int)-(h:Int)=(pc:Int):=by have:=HN.o;omega
     have bB:m<=pc/\pc<b:=by have:=HN.o;omega
     have bR:IntKind.i64.wrap (h:Int)=(h:Int):=by rw [IntKind.wrap_i64];omega
     have bS:IntKind.i64.wrap (pc:Int)=(pc:Int):=by rw [IntKind.wrap_i64];omega
     have bI:(h:Int)<(n:Int):=by omega
     have bO:(pc:Int)<(n:Int):=by omega
     have aH:=qH aQ;have ak:=hS.o.2.2.1;have aA:=hS.o.2.2.2;clear hh aQ;obtain⟨x,hx⟩:=qX (f pc);obtain⟨y,hy⟩:=qX (f h);have aB:=qdd (n:=n) f (show pc<n by omega);have aC:=qdd (n:=n) f (show h<n by omega);rw [hx] at aB;rw [hy] at aC;obtain⟨cx,fx⟩:=ak.at aB;obtain⟨cy,fy⟩:=ak.at aC;have aM:=qae wr _ cx;have bx:∀W,Below wr.heap.size wr W->W.cell? ⟨g,pc,none⟩=some (.int .i64 (x:Int)):=fun W hb=>(hb.cell (p:=⟨g,pc,none⟩) aM).trans cx
     have bY:∀W,Below wr.heap.size wr W->W.cell? ⟨g,h,none⟩=some (.int .i64 (y:Int)):=fun W hb=>(hb.cell (p:=⟨g,h,none⟩) aM).trans cy
     have aF:x∈l:=hx▸Z.o.2.2.2.1 _ (show pc<n by omega);have aG:y∈l:=hy▸Z.o.2.2.2.1 _ (show h<n by omega);have HK:=qH (Z.o.1 wr.drew (qb5 aA (keepB qB.drew)) x aF y aG);have HV:=qH (qA (Z.o.2.1 x aF y aG) (qA hx (qA hy (qA ak aA))));clear aB aC cx fx cy fy aF aG ak aA hx hy;go_wp2_with fail;refine wp_region_held_drew (S:=fun W=>Below wr.heap.size wr W) (by kernel_rfl) qB.drew (fun hS0=>?_);refine hT 0 (hB:=by as_aux_lemma=>kernel_rfl) (h:=hT 1 (hB:=by as_aux_lemma=>kernel_rfl) (h:=hT 2 (hB:=by as_aux_lemma=>kernel_rfl) (h:=hT 3 (hB:=by as_aux_lemma=>kernel_rfl) (h:=hT 4 (hB:=by as_aux_lemma=>kernel_rfl) (h:=hT 5 (hB:=by as_aux_lemma=>kernel_rfl) (h:=hT 6 (hB:=by as_aux_lemma=>kernel_rfl) (h:=hT 7 (hB:=by as_aux_lemma=>kernel_rfl) (h:=hT 8 (hB:=by as_aux_lemma=>kernel_rfl) (h:=hT 9 (hB:=by as_aux_lemma=>kernel_rfl) (h:=hT 10 (hB:=by as_aux_lemma=>kernel_rfl) (h:=?_)))))))))));refine hC 11 HK.o (hr:=by as_aux_lemma=>kernel_rfl) (h:=?_);rintro e w2 ⟨rfl,au⟩;have V:=qcm au;refine⟨_,rfl,V,hN (h:=?_)⟩;have HW:=qH (qA (HV.o.2.2.2.1.below V) (qb5 HV.o.2.2.2.2 (keepB V)))
     by_cases ax:cf x y<0
     ·refine hT 12 (hS:=V) (hB:=by as_aux_lemma=>kernel_rfl) (h:=hT 13 (hS:=V) (hB:=by as_aux_lemma=>kernel_rfl) (h:=?_));refine wpAnyH_done (by kernel_rfl) ?_ _;have hL:lt (f pc) (f h):=by rw [HV.o.2.1,HV.o.2.2.1];exact HV.o.1.1 ax
      have HL:=qH hL;clear V au hS0 bx bY ax HK hL HV;go_wp2;go_roundw
      case rel=>exact⟨s,h,rfl,rfl,bn,by omega,by omega,qH ⟨hS.o.1,fun k H h2=>Z.o.2.2.2.2.side Z.o.2.2.1 (show a<=h by omega) H (show k<m by omega) (by have:=HN.o;omega) (by have:=HN.o;omega) (by rw [aH.o];exact HL.o),HW.o.1,HW.o.2⟩⟩
      case measure=>simp [intOf];omega
     ·refine hT 12 (hS:=V) (hB:=by as_aux_lemma=>kernel_rfl) (h:=hT 13 (hS:=V) (hB:=by as_aux_lemma=>kernel_rfl) (h:=?_));refine wpAnyH_done (by kernel_rfl) ?_ _;have hL:¬lt (f pc) (f h):=fun h=>ax (HV.o.1.2 (by rw [HV.o.2.1,HV.o.2.2.1] at h;exact h))
      have HL:=qH hL;clear V au hS0 bx bY ax HK hL HV;go_wp2;go_roundw
      case rel=>exact⟨h+1,r,by go_num,rfl,by omega,by omega,bi,qH ⟨fun k H h2 h3=>HL.o (by rw [<-aH.o];exact Z.o.2.2.2.2.side Z.o.2.2.1 (show a<=k by omega) (show k<=h by omega) (show h<m by omega) (by have:=HN.o;omega) (by have:=HN.o;omega) h3),hS.o.2.1,HW.o.1,HW.o.2⟩⟩
      case measure=>simp [intOf];omega
    ·obtain rfl:s=r:=by omega
     have aW:¬(s:Int)<(s:Int):=by omega
     obtain⟨e,he⟩:∃z,nn-s=z:=⟨_,rfl⟩;have bF:(nn:Int)-(s:Int)=(e:Int):=by have:=HN.o;omega
     have Y:e+s=E+m/\m<=e/\e<=b/\E<=e:=by have:=HN.o;omega
     have J:a<=s/\s<=m/\s<=E:=by omega
     have HL:Hu ((∀k,a<=k->k<s->E+m-1-k<b->¬lt (f (E+m-1-k)) (f k))/\(∀k,s<=k->k<m->k<E->lt (f (E+m-1-k)) (f k))):=qH (by
      have H:=HN.o;have h2:=HS.o;refine⟨fun k k1 k2 k3=>?_,fun k k1 k2 k3=>?_⟩
      ·rw [show E+m-1-k=p-k by omega];exact hS.o.1 k (by omega) k2
      ·rw [show E+m-1-k=p-k by omega];exact hS.o.2.1 k k1 (by omega))
     have H2:Hu (NatR wr B g n c (fnl n f)/\w.grownBy wr (some g)):=qH hS.o.2.2;clear hS he;go_upto_region 39 with fail
     go_cut [185] (fun x185 W=>x185=.bool (decide (s<m/\m<e))/\Hu (W=wr))
     case first =>
      as_aux_lemma =>
      by_cases H:s<m
      ·have af:(s:Int)<(m:Int):=by omega
       by_cases h2:m<e
       ·have ag:(m:Int)<(e:Int):=by omega
        have O:decide (s<m/\m<e)=true:=qV ⟨H,h2⟩;go_wp2;go_meet;exact⟨by rw [O],qH rfl⟩
       ·have ag:¬(m:Int)<(e:Int):=by omega
        have O:decide (s<m/\m<e)=false:=qU fun h=>h2 h.2
        go_wp2;go_meet;exact⟨by rw [O],qH rfl⟩
      ·have af:¬(s:Int)<(m:Int):=by omega
       have O:decide (s<m/\m<e)=false:=qU fun h=>H h.1
       go_wp2;go_meet;exact⟨by rw [O],qH rfl⟩
     case rest =>
      obtain⟨rfl,ae⟩:=hcut;have ah:wc=wr:=ae.o;clear ae;rw [ah];clear ah
      go_upto_if 185 with fail
      go_cut [] (fun W=>Hu (NatR W B g n c (fnl n (rot f s m e))/\w.grownBy W (some g)))
      case first =>
       as_aux_lemma =>
       by_cases O:s<m/\m<e
       ·have I:decide (s<m/\m<e)=true:=qV O;rw [I];clear I;have HR:=qH (qmH B g n c s m e f (.func (.func F) #[] cb) wr hn H2.o.1 O.1 O.2 (by omega));go_wp2_with fail;refine HR.o.mono ?_;rintro e2 w2 ⟨rfl,k1,k2⟩;have HE:=qH (qA k2 (qb5 H2.o.2 k1));clear k1 k2 HR;go_wp2;go_meet;exact HE
       ·have I:decide (s<m/\m<e)=false:=qU O;rw [I];clear I;have HE:Hu (NatR wr B g n c (fnl n (rot f s m e))/\w.grownBy wr (some g)):=qH (by
         rcases (show s=m\/e=m by omega) with h | h
         ·rw [h,qlH];exact H2.o
         ·rw [h,qoH f s m J.2.1];exact H2.o)
        go_wp2;go_meet;exact HE
      case rest =>
       have H3:=hcut;clear hcut H2;have aD:Mst T lt (rot f s m e) a s E:=mst_low Z.o.2.2.2.2 Y.1 J.1 J.2.1 J.2.2 Y.2.2.1;have aa:Mst T lt (rot f s m e) E e b:=mst_upp Z.o.2.2.2.2 Y.1 J.1 J.2.1 J.2.2 Y.2.2.1;obtain⟨f1,av⟩:=qX (rot f s m e);rw [av] at aD aa H3;have ay:∀k,k<n->f1 k∈l:=fun k hk=>by
        rw [<-av]
        by_cases H:s<=k/\k<e
        ·obtain⟨j,_,j2,ej⟩:=rot_mem (f:=f) J.2.1 Y.2.1 H.1 H.2;rw [ej];exact Z.o.2.2.2.1 j (by omega)
        ·unfold rot;rw [if_neg H];exact Z.o.2.2.2.1 k hk
       have HF:=qH (qA av (qA aD (qA aa ay)));clear av aD aa ay;obtain⟨W1,aI⟩:∃W,W=wc:=⟨_,rfl⟩;rw [<-aI] at H3 ⊢;clear aI;go_upto_region 41 with fail
       go_cut [199] (fun x199 W=>x199=.bool (decide (a<s/\s<E))/\Hu (W=W1))
       case first =>
        as_aux_lemma =>
        by_cases H:a<s
        ·have af:(a:Int)<(s:Int):=by omega
         by_cases h2:s<E
         ·have ag:(s:Int)<(E:Int):=by omega
          have O:decide (a<s/\s<E)=true:=qV ⟨H,h2⟩;go_wp2;go_meet;exact⟨by rw [O],qH rfl⟩
         ·have ag:¬(s:Int)<(E:Int):=by omega
          have O:decide (a<s/\s<E)=false:=qU fun h=>h2 h.2
          go_wp2;go_meet;exact⟨by rw [O],qH rfl⟩
        ·have af:¬(a:Int)<(s:Int):=by omega
         have O:decide (a<s/\s<E)=false:=qU fun h=>H h.1
         go_wp2;go_meet;exact⟨by rw [O],qH rfl⟩
       case rest =>
        obtain⟨rfl,ae⟩:=hcut;have ah:wc=W1:=ae.o;clear ae;rw [ah];clear ah
        go_upto_if 199 with fail
        go_cut [] (fun W=>Hu (∃U,NatR W B g n c (fnl n U)/\w.grownBy W (some g)/\Mer T f1 U a E))
        case first =>
         as_aux_lemma =>
         by_cases O:a<s/\s<E
         ·have I:decide (a<s/\s<E)=true:=qV O;rw [I];clear I;have HR:=qH (HI.o a s E f1 W1 (by omega) O.1 O.2 (by omega) H3.o.1 HF.o.2.2.2 HF.o.2.1 fun W hg=>Z.o.1 W (qb5 H3.o.2 hg));go_wp2_with fail;refine HR.o.mono ?_;rintro e2 w2 ⟨rfl,k1,U,k2,k3⟩;have HE:Hu (∃U,NatR w2 B g n c (fnl n U)/\w.grownBy w2 (some g)/\Mer T f1 U a E):=qH ⟨U,k2,qb5 H3.o.2 k1,k3⟩;clear k1 k2 k3 HR;go_wp2;go_meet;exact HE
         ·have I:decide (a<s/\s<E)=false:=qU O;rw [I];clear I;have HE:Hu (∃U,NatR W1 B g n c (fnl n U)/\w.grownBy W1 (some g)/\Mer T f1 U a E):=qH ⟨f1,H3.o.1,H3.o.2,Mer.refl (by
           rcases (show s=a\/s=E by omega) with h | h
           ·exact HF.o.2.1.r.sub (by omega) qN
           ·exact HF.o.2.1.l.sub qN (by omega))⟩
          go_wp2;go_meet;exact HE
        case rest =>
         obtain⟨U,k2,k3,k4⟩:=hcut.o;have aa:Mst T lt U E e b:=HF.o.2.2.1.congr Y.2.2.2 Y.2.2.1 fun k H h2=>k4.o k (by omega)
         have az:∀k,k<n->U k∈l:=fun k hk=>by
          by_cases H:a<=k/\k<E
          ·obtain⟨j,_,j2,ej⟩:=k4.mem k H.1 H.2;rw [ej];exact HF.o.2.2.2 j (by omega)
          ·rw [k4.o k H];exact HF.o.2.2.2 k hk
         have hend:∀f3,Mer T U f3 E b->Mer T f f3 a b:=fun f3 h3=>qmo Z.o.2.2.1 Z.o.2.2.2.2 aS aY ai.1 ai.2 Y.1 J.1 J.2.1 J.2.2 Y.2.2.1 HL.o.1 HL.o.2 HF.o.1.symm k4 h3
         have H4:=qH (qA k2 (qA k3 (qA aa (qA az hend))));clear hcut k2 k3 k4 aa az hend H3;obtain⟨W2,aJ⟩:∃W,W=wc:=⟨_,rfl⟩;rw [<-aJ] at H4 ⊢;clear aJ
         by_cases H:E<e
         ·have af:(E:Int)<(e:Int):=by omega
          by_cases h2:e<b
          ·have ag:(e:Int)<(b:Int):=by omega
           have HR:=qH (HI.o E e b U W2 (by omega) H h2 aU H4.o.1 H4.o.2.2.2.1 H4.o.2.2.1 fun W hg=>Z.o.1 W (qb5 H4.o.2.1 hg));go_wp2_with fail;refine HR.o.mono ?_;rintro e2 w2 ⟨rfl,k1,f3,k2,k3⟩;have HE:Hu (w.grownBy w2 (some g)/\∃f',NatR w2 B g n c (fnl n f')/\Mer T f f' a b):=qH ⟨qb5 H4.o.2.1 k1,f3,k2,H4.o.2.2.2.2 f3 k3⟩;clear k1 k2 k3 HR;go_wp2_with fail
           go_end0
           exact⟨rfl,HE.o⟩
          ·have ag:¬(e:Int)<(b:Int):=by omega
           have HE:Hu (w.grownBy W2 (some g)/\∃f',NatR W2 B g n c (fnl n f')/\Mer T f f' a b):=qH ⟨H4.o.2.1,U,H4.o.1,H4.o.2.2.2.2 U (Mer.refl (H4.o.2.2.1.l.sub qN (by omega)))⟩;go_wp2_with fail
           go_end0
           exact⟨rfl,HE.o⟩
         ·have af:¬(E:Int)<(e:Int):=by omega
          have HE:Hu (w.grownBy W2 (some g)/\∃f',NatR W2 B g n c (fnl n f')/\Mer T f f' a b):=qH ⟨H4.o.2.1,U,H4.o.1,H4.o.2.2.2.2 U (Mer.refl (H4.o.2.2.1.r.sub (by omega) qN))⟩;go_wp2_with fail
          go_end0
          exact⟨rfl,HE.o⟩
theorem symm_any (T lt:Nat->Nat->Prop) [DecidableRel lt] (Y:∀x y z,T x y->T y z->T x z) (J:Nat->Nat->Int) (F:Nat) (E:Array Value) (B g n c:Nat) (l:List Nat) (V:n<=1000) (H:∀x∈l,∀y∈l,J x y<0↔lt x y)
  (U:∀a b W,(callFunc F (#[a,b]++E)).run prog W=.ok (.enter F (#[a,b]++E)) W) :
  ∀(N a m b:Nat) (f:Nat->Nat) (w:World),b-a<=N->a<m->m<b->b<=n->NatR w B g n c (fnl n f)->(∀k,k<n->f k∈l)->Mst T lt f a m b->CmpOk F E g l J w ->
   Calls prog 204 #[.slice (some ⟨g,0,none⟩) n c,.int .i64 (a:Int),.int .i64 (m:Int),.int .i64 (b:Int),.func (.func F) #[] E] w fun e w'=>e=.returned (.tuple #[])/\w.grownBy w' (some g)/\∃Z,NatR w' B g n c (fnl n Z)/\Mer T f Z a b:=by
 intro N
 induction N with
 | zero=>intro a m b f w h1 h2 h3;omega
 | succ N IH =>
  intro a m b f w
  by_cases I:m=a+1
  ·exact qo9 T lt Y J F E B g n c l V H U (N+1) a m b f w I
  ·by_cases O:b=m+1
   ·exact qmU T lt Y J F E B g n c l V H U (N+1) a m b f w I O
   ·exact symm_gen T lt Y J F E B g n c l V H U N a m b f w I O IH
theorem Par.congr {T lt:Nat->Nat->Prop} {f F:Nat->Nat} {a b E b':Nat} (h:Par T lt f a b) (O:a<=E) (U:b'<=b) (e:∀k,E<=k->k<b'->F k=f k):Par T lt F E b':=fun i j H I J=>by
 rw [e i H (by omega),e j (by omega) J];exact h i j (by omega) I (by omega)
theorem Mer.nil {T:Nat->Nat->Prop} {f E:Nat->Nat} {a b:Nat} (h:Mer T f E a b) (F:b<=a):E=f:=funext fun k=>h.o k (by omega)
def Blk (T:Nat->Nat->Prop) (f E:Nat->Nat) (p:Nat):Prop:=(p=0/\E=f)\/(p=20/\Mer T f E 0 20)\/(p=40/\∃F,Mer T f F 0 20/\Mer T F E 20 40)
def Blks (T:Nat->Nat->Prop) (f F:Nat->Nat) (n:Nat):Prop:=(n<=20/\Mer T f F 0 n)\/(20<n/\∃E,Mer T f E 0 20/\Mer T E F 20 n)
theorem Blk.o {T:Nat->Nat->Prop} {f E:Nat->Nat} {p:Nat} (h:Blk T f E p):∀k,p<=k->E k=f k:=fun k I=>by
 rcases h with ⟨_,rfl⟩ | ⟨rfl,h⟩ | ⟨rfl,f0,F,H⟩
 ·rfl
 ·exact h.o k (by omega)
 ·rw [H.o k (by omega),F.o k (by omega)]
theorem Blk.next {T:Nat->Nat->Prop} {f E F:Nat->Nat} {p:Nat} (h:Blk T f E p) (O:p<=20) (H:Mer T E F p (p+20)):Blk T f F (p+20):=by
 rcases h with ⟨rfl,rfl⟩ | ⟨rfl,h⟩ | ⟨rfl,f0,I,J⟩
 ·exact .inr (.inl ⟨rfl,H⟩)
 ·exact .inr (.inr ⟨rfl,E,h,H⟩)
 ·omega
theorem Blk.last {T:Nat->Nat->Prop} {f F H:Nat->Nat} {p n:Nat} (h:Blk T f F p) (Y:p<=n) (V:n<p+20) (U:n<=40) (E:Mer T F H p n):Blks T f H n:=by
 rcases h with ⟨rfl,rfl⟩ | ⟨rfl,h⟩ | ⟨rfl,f0,J,O⟩
 ·exact .inl ⟨by omega,E⟩
 ·rcases qaB 20 n with I | I
  ·exact .inr ⟨I,F,h,E⟩
  ·obtain rfl:n=20:=by omega
   rw [E.nil qN];exact .inl ⟨qad _,h⟩
 ·obtain rfl:n=40:=by omega
  rw [E.nil qN];exact .inr ⟨by decide,f0,J,O⟩
theorem Blks.all {T:Nat->Nat->Prop} {f E:Nat->Nat} {n:Nat} {l:List Nat} (h:Blks T f E n) (F:∀k,k<n->f k∈l):∀k,k<n->E k∈l:=by
 rcases h with ⟨_,h⟩ | ⟨J,f0,H,I⟩
 ·exact h.all qN F
 ·exact I.all qN (H.all (by omega) F)
theorem Blk.all {T:Nat->Nat->Prop} {f F:Nat->Nat} {p n:Nat} {l:List Nat} (h:Blk T f F p) (H:p<=n) (E:∀k,k<n->f k∈l):∀k,k<n->F k∈l:=by
 rcases h with ⟨_,rfl⟩ | ⟨rfl,h⟩ | ⟨rfl,f0,I,J⟩
 ·exact E
 ·exact h.all H E
 ·exact J.all H (I.all (by omega) E)
theorem blks_mer {T:Nat->Nat->Prop} {f I J O:Nat->Nat} {n:Nat} (Z:20<n) (E:Mer T f I 0 20) (F:Mer T I J 20 n) (H:Mer T J O 0 n):Mer T f O 0 n:=by
 refine⟨fun k U=>?_,fun k V Y=>?_,H.inc⟩
 ·rw [H.o k U,F.o k (by omega),E.o k (by omega)]
 ·obtain⟨j,_,j2,e⟩:=H.mem k V Y;rw [e];rcases qaB j 20 with h3 | h3
  ·rw [F.o j (by omega)];obtain⟨q,_,q2,e2⟩:=E.mem j (qaj _) h3;exact⟨q,qaj _,by omega,e2⟩
  ·obtain⟨q,q1,q2,e2⟩:=F.mem j h3 j2;exact⟨q,qaj _,q2,by rw [e2,E.o q (by omega)]⟩
theorem qmR (T lt:Nat->Nat->Prop) [DecidableRel lt] (ht:∀x y z,T x y->T y z->T x z) (cf:Nat->Nat->Int) (F:Nat) (O:Array Value) (B g n c:Nat) (l:List Nat) (hn:n<=40) (ai:∀x∈l,∀y∈l,cf x y<0↔lt x y)
  (hF:∀a b W,(callFunc F (#[a,b]++O)).run prog W=.ok (.enter F (#[a,b]++O)) W) (f:Nat->Nat) (w:World) (hO:NatR w B g n c (fnl n f)) (aB:∀k,k<n->f k∈l) (hP:Par T lt f 0 n)
  (hB:∀f0 E,Mer T f f0 0 20->Mer T f0 E 20 n->Mst T lt E 0 20 n) (hC:CmpOk F O g l cf w) :
  Calls prog 136 #[.slice (some ⟨g,0,none⟩) n c,.int .i64 (n:Int),.func (.func F) #[] O] w fun e w'=>e=.returned (.tuple #[])/\w.grownBy w' (some g)/\∃I,NatR w' B g n c (fnl n I)/\Mer T f I 0 n:=by
 have ax:Hu (∀(a b:Nat) (E:Nat->Nat) (W:World),a<=b->b<=n->NatR W B g n c (fnl n E)->w.grownBy W (some g)->(∀k,k<n->E k∈l)->Par T lt E a b ->
   Calls prog 203 #[.slice (some ⟨g,0,none⟩) n c,.int .i64 (a:Int),.int .i64 (b:Int),.func (.func F) #[] O] W fun e w'=>e=.returned (.tuple #[])/\w.grownBy w' (some g)/\∃I,NatR w' B g n c (fnl n I)/\Mer T E I a b):=qH fun a b E W J Z U h4 h5 h6 =>
  (qkz T lt ht cf F O B g n c l (by omega) ai hF a b E W J Z U h5 h6 fun W' hg=>hC W' (qb5 h4 hg)).mono fun e w' ⟨e1,e2,e3⟩=>⟨e1,qb5 h4 e2,e3⟩
 have ay:Hu (∀(E:Nat->Nat) (W:World),20<n->NatR W B g n c (fnl n E)->w.grownBy W (some g)->(∀k,k<n->E k∈l)->Blks T f E n ->
   Calls prog 204 #[.slice (some ⟨g,0,none⟩) n c,.int .i64 0,.int .i64 20,.int .i64 (n:Int),.func (.func F) #[] O] W fun e w'=>e=.returned (.tuple #[])/\w.grownBy w' (some g)/\∃I,NatR w' B g n c (fnl n I)/\Mer T f I 0 n):=qH fun E W J Z U h4 h5=>by
  rcases h5 with ⟨h,_⟩ | ⟨_,f0,k0,H⟩
  ·omega
  ·exact (symm_any T lt ht cf F O B g n c l (by omega) ai hF n 0 20 n E W (by omega) (by decide) J qN Z h4 (hB f0 E k0 H) fun W' hg=>hC W' (qb5 U hg)).mono fun e w' ⟨e1,e2,I,e3,e4⟩=>⟨e1,qb5 U e2,I,e3,blks_mer J k0 H e4⟩
 have HC:=qH (qA hP aB);have H0:Hu (∃E,NatR w B g n c (fnl n E)/\w.grownBy w (some g)/\Blk T f E 0):=qH ⟨f,hO,qcw _ _,.inl ⟨rfl,rfl⟩⟩;clear hC ai ht aB hP hO hB;go_enter func136,ntmps136;go_wp2_with fail
 go_loopw [7,8] (fun x7 x8 W=>∃p q:Nat,x7=.int .i64 (p:Int)/\x8=.int .i64 (q:Int)/\q=p+20/\p<=n/\(p=0\/p=20\/p=40)/\Hu (∃E,NatR W B g n c (fnl n E)/\w.grownBy W (some g)/\Blk T f E p)) (fun x7 _ _=>60-(intOf x7).toNat)
 case atStart=>exact⟨0,20,rfl,rfl,rfl,qaj _,.inl rfl,H0⟩
 case round =>
  obtain⟨p,q,rfl,rfl,ak,ae,aj,hS⟩:=hrel
  by_cases ag:q<=n
  ·have af:(q:Int)<=(n:Int):=by omega
   obtain⟨q2,au⟩:∃z,q+20=z:=⟨_,rfl⟩;have aC:(q:Int)+20=(q2:Int):=by omega
   have av:q2=q+20/\(q=0\/q=20\/q=40)/\q<=40:=by omega
   have HQ:=qH (qA av aj);have Y:Hu (Calls prog 203 #[.slice (some ⟨g,0,none⟩) n c,.int .i64 (p:Int),.int .i64 (q:Int),.func (.func F) #[] O] wr fun e w'=>e=.returned (.tuple #[])/\∃E,NatR w' B g n c (fnl n E)/\w.grownBy w' (some g)/\Blk T f E q):=qH (by
    obtain⟨E,J,Z,U⟩:=hS.o;refine (ax.o p q E wr (by omega) ag J Z (U.all ae HC.o.2) (HC.o.1.congr (qaj _) ag fun k H _=>U.o k H)).mono fun e w' ⟨e1,e2,f2,e3,e4⟩=>⟨e1,f2,e3,e2,?_⟩
    rw [ak] at e4 ⊢;exact U.next (by omega) e4)
   have aJ:q<=40:=av.2.2;have aI:p<q:=by omega
   clear hS ak aj av au;go_wp2_with fail;refine Y.o.mono ?_;rintro e w2 ⟨rfl,hX⟩;have HE:=qH hX;clear hX Y;go_wp2;go_roundw
   case rel=>exact⟨q,q2,rfl,by go_num,HQ.o.1.1,ag,HQ.o.1.2.1,HE⟩
   case measure=>simp [intOf];omega
  have af:¬(q:Int)<=(n:Int):=by omega
  have Y:Hu (Calls prog 203 #[.slice (some ⟨g,0,none⟩) n c,.int .i64 (p:Int),.int .i64 (n:Int),.func (.func F) #[] O] wr fun e w'=>e=.returned (.tuple #[])/\∃E,NatR w' B g n c (fnl n E)/\w.grownBy w' (some g)/\Blks T f E n):=qH (by
   obtain⟨E,J,Z,U⟩:=hS.o;exact (ax.o p n E wr ae qN J Z (U.all ae HC.o.2) (HC.o.1.congr (qaj _) qN fun k H _=>U.o k H)).mono fun e w' ⟨e1,e2,f2,e3,e4⟩=>⟨e1,f2,e3,e2,U.last ae (by omega) hn e4⟩)
  clear hS ak aj;go_wp2_with fail;refine Y.o.mono ?_;rintro e w2 ⟨rfl,hX⟩;have HB:=qH hX;clear hX Y;go_wp2_with fail;have ah:Hu ((20=20/\∃E,NatR w2 B g n c (fnl n E)/\w.grownBy w2 (some g)/\Blks T f E n)\/(20=40/\∃E,NatR w2 B g n c (fnl n E)/\w.grownBy w2 (some g)/\Mer T f E 0 n)):=qH (.inl ⟨rfl,HB.o⟩);clear HB af
  go_loopw [6] (fun x6 W=>∃s:Nat,x6=.int .i64 (s:Int)/\20<=s/\s<=40/\Hu ((s=20/\∃E,NatR W B g n c (fnl n E)/\w.grownBy W (some g)/\Blks T f E n)\/(s=40/\∃E,NatR W B g n c (fnl n E)/\w.grownBy W (some g)/\Mer T f E 0 n))) (fun x6 _=>40-(intOf x6).toNat)
  case atStart=>exact⟨20,rfl,by decide,by decide,ah⟩
  case round =>
   obtain⟨s,rfl,aN,aO,hS⟩:=hrel
   by_cases aQ:s<n
   case neg =>
    have aP:¬(s:Int)<(n:Int):=by omega
    have HE:Hu (w.grownBy wr (some g)/\∃I,NatR wr B g n c (fnl n I)/\Mer T f I 0 n):=qH (by
     rcases hS.o with ⟨h,E,H,k2,k3⟩ | ⟨_,E,H,k2,k3⟩
     ·rcases k3 with ⟨_,k3⟩ | ⟨k3,_⟩
      ·exact⟨k2,E,H,k3⟩
      ·omega
     ·exact⟨k2,E,H,k3⟩)
    clear hS ah;go_wp2_with fail
    go_end0
    exact⟨rfl,HE.o⟩
   obtain rfl:s=20:=by
    rcases hS.o with ⟨h,_⟩ | ⟨h,_⟩
    ·exact h
    ·omega
   have az:((20:Nat):Int)=20:=rfl;rw [az];clear az;have aH:(20:Int)<(n:Int):=by omega
   have aa:Hu (∃E,NatR wr B g n c (fnl n E)/\w.grownBy wr (some g)/\Blks T f E n):=qH (by
    rcases hS.o with ⟨_,h⟩ | ⟨h,_⟩
    ·exact h
    ·omega)
   clear hS ah;go_wp2_with fail
   go_loopw [7,8] (fun x7 x8 W=>∃p q:Nat,x7=.int .i64 (p:Int)/\x8=.int .i64 (q:Int)/\p<=40/\q<=80/\Hu ((p=0/\q=40/\∃E,NatR W B g n c (fnl n E)/\w.grownBy W (some g)/\Blks T f E n)\/(p=40/\q=80/\n=40/\∃E,NatR W B g n c (fnl n E)/\w.grownBy W (some g)/\Mer T f E 0 n))) (fun _ x8 _=>80-(intOf x8).toNat)
   case atStart=>exact⟨0,40,rfl,rfl,by decide,by decide,qH (.inl ⟨rfl,rfl,aa.o⟩)⟩
   case round =>
    obtain⟨p,q,rfl,rfl,aK,aM,hS⟩:=hrel
    by_cases ag:q<=n
    ·have aA:p=0/\q=n/\n=40:=by
      rcases hS.o with ⟨J,Z,_⟩ | ⟨J,Z,_⟩ <;> omega
     obtain⟨rfl,rfl,aD⟩:=aA;have af:(q:Int)<=(q:Int):=Int.le_refl _;obtain⟨q2,au⟩:∃z,q+40=z:=⟨_,rfl⟩;have aC:(q:Int)+40=(q2:Int):=by omega
     have V:Hu (q=40/\q2=80):=qH (by omega);have Y:Hu (Calls prog 204 #[.slice (some ⟨g,0,none⟩) q c,.int .i64 0,.int .i64 20,.int .i64 (q:Int),.func (.func F) #[] O] wr fun e w'=>e=.returned (.tuple #[])/\w.grownBy w' (some g)/\∃I,NatR w' B g q c (fnl q I)/\Mer T f I 0 q):=qH (by
      rcases hS.o with ⟨_,_,E,H,k2,k3⟩ | ⟨h,_⟩
      ·exact ay.o E wr (by omega) H k2 (k3.all HC.o.2) k3
      ·omega)
     clear hS aa au aD;go_wp2_with fail;refine Y.o.mono ?_;rintro e w3 ⟨rfl,H,E,k2,k3⟩;have HE:Hu ((q=0/\q2=40/\∃E,NatR w3 B g q c (fnl q E)/\w.grownBy w3 (some g)/\Blks T f E q)\/(q=40/\q2=80/\q=40/\∃E,NatR w3 B g q c (fnl q E)/\w.grownBy w3 (some g)/\Mer T f E 0 q)):=qH (.inr ⟨V.o.1,V.o.2,V.o.1,E,k2,H,k3⟩);clear H k2 k3 Y;go_wp2;go_roundw
     case rel=>exact⟨q,q2,rfl,by go_num,hn,by have:=V.o;omega,HE⟩
     case measure=>have:=V.o;simp [intOf];omega
    have af:¬(q:Int)<=(n:Int):=by omega
    by_cases aF:p=0
    ·subst aF;have Y:Hu (Calls prog 204 #[.slice (some ⟨g,0,none⟩) n c,.int .i64 0,.int .i64 20,.int .i64 (n:Int),.func (.func F) #[] O] wr fun e w'=>e=.returned (.tuple #[])/\w.grownBy w' (some g)/\∃I,NatR w' B g n c (fnl n I)/\Mer T f I 0 n):=qH (by
      rcases hS.o with ⟨_,_,E,H,k2,k3⟩ | ⟨h,_⟩
      ·exact ay.o E wr (by omega) H k2 (k3.all HC.o.2) k3
      ·omega)
     clear hS aa;go_wp2_with fail;refine Y.o.mono ?_;rintro e w3 ⟨rfl,H,E,k2,k3⟩;have HE:Hu (∃E,NatR w3 B g n c (fnl n E)/\w.grownBy w3 (some g)/\Mer T f E 0 n):=qH ⟨E,k2,H,k3⟩;clear H k2 k3 Y;go_wp2;go_roundw
     case rel=>exact⟨40,rfl,by decide,by decide,qH (.inr ⟨rfl,HE.o⟩)⟩
     case measure=>simp [intOf]
    ·have aG:p=40/\n=40:=by
      rcases hS.o with ⟨J,_⟩ | ⟨J,_,Z,_⟩ <;> omega
     have aL:¬(p:Int)+20<(n:Int):=by omega
     have HE:Hu (∃E,NatR wr B g n c (fnl n E)/\w.grownBy wr (some g)/\Mer T f E 0 n):=qH (by
      rcases hS.o with ⟨J,_⟩ | ⟨_,_,_,h⟩
      ·omega
      ·exact h)
     clear hS aa aG;go_wp2;go_roundw
     case rel=>exact⟨40,rfl,by decide,by decide,qH (.inr ⟨rfl,HE.o⟩)⟩
     case measure=>simp [intOf]
theorem qiV (T lt:Nat->Nat->Prop) [DecidableRel lt] (ht:∀x y z,T x y->T y z->T x z) (J:Nat->Nat->Int) (F:Nat) (E:Array Value) (B g n c:Nat) (l:List Nat) (hn:n<=40) (H:∀x∈l,∀y∈l,J x y<0↔lt x y)
  (hF:∀a b W,(callFunc F (#[a,b]++E)).run prog W=.ok (.enter F (#[a,b]++E)) W) (f:Nat->Nat) (w:World) (hO:NatR w B g n c (fnl n f)) (I:∀k,k<n->f k∈l) (hP:Par T lt f 0 n)
  (hB:∀V Y,Mer T f V 0 20->Mer T V Y 20 n->Mst T lt Y 0 20 n) (hC:CmpOk F E g l J w) :
  Calls prog 81 #[.slice (some ⟨g,0,none⟩) n c,.func (.func F) #[] E] w fun e w'=>e=.returned (.tuple #[])/\w.grownBy w' (some g)/\∃U,NatR w' B g n c (fnl n U)/\Mer T f U 0 n:=by
 have O:=qH (qmR T lt ht J F E B g n c l hn H hF f w hO I hP hB hC);clear H hO hF hC I hP hB ht;go_enter func81,ntmps81;go_wp2_with fail;refine O.o.mono ?_;rintro e w2 ⟨rfl,Z,h2⟩;have HE:=qH (qA Z h2);clear Z h2 O;go_wp2_with fail
 go_end0
 exact⟨rfl,HE.o⟩
theorem qgK (T lt:Nat->Nat->Prop) [DecidableRel lt] (ht:∀x y z,T x y->T y z->T x z) (cf:Nat->Nat->Int) (F:Nat) (cb:Array Value) (ao:Option Addr) (b off n c:Nat) (f:Nat->Nat) (w:World) (ak:∀x∈fnl n f,∀y∈fnl n f,cf x y<0↔lt x y) (hn:n<=40) (hN:NCells w ao b off (natI (fnl n f)))
  (hF:∀a b W,(callFunc F (#[a,b]++cb)).run prog W=.ok (.enter F (#[a,b]++cb)) W) (hP:Par T lt f 0 n) (hB:∀f0 f1,Mer T f f0 0 20->Mer T f0 f1 20 n->Mst T lt f1 0 20 n)
  (hC:∀W,Below w.heap.size w W->∀x∈fnl n f,∀y∈fnl n f,Calls prog F (#[.int .i64 (x:Int),.int .i64 (y:Int)]++cb) W fun e w'=>e=.returned (.int .i64 (cf x y))/\Below W.heap.size W w') :
  Calls prog 38 #[.slice ao n c,.func (.func F) #[] cb] w fun e w'=>∃g f',e=.returned (.slice (some ⟨g,0,none⟩) n n)/\NatR w' w.heap.size g n n (fnl n f')/\Mer T f f' 0 n/\Below w.heap.size w w':=by
 have au:∀k,k<n->f k∈fnl n f:=fun k hk=>qbb.2 ⟨k,qaq.2 hk,rfl⟩
 have hS0:∀(W:World),Below w.heap.size w W->NatR W w.heap.size w.heap.size n n (fnl n f)->Calls prog 81 #[.slice (some ⟨w.heap.size,0,none⟩) n n,.func (.func F) #[] cb] W fun e w'=>e=.returned (.tuple #[])/\W.grownBy w' (some w.heap.size)/\∃f',NatR w' w.heap.size w.heap.size n n (fnl n f')/\Mer T f f' 0 n:=fun W hb hO =>
  qiV T lt ht cf F cb w.heap.size w.heap.size n n (fnl n f) hn ak hF f W hO au hP hB fun W' hk=>hC W' (qc7 hb hk qN)
 obtain⟨l,af⟩:=qX (fnl n f);have hl:l.length=n:=by rw [<-af];exact qdC n f
 rw [af] at hS0 hN;clear hP hB au ak hC ht af;have az:=fun W=>qiH n (by omega) W
 obtain⟨W1,ai,N1⟩:=nw1 w (madeCells #[.int .i64 0] n) 3;obtain⟨Z,hZ⟩:=qY ((madeCells #[.int .i64 0] n).toList);obtain⟨C,H⟩:=qY ((natI l).map fun z=>Value.int .i64 z);have aj:Z.length=n:=by
  rw [hZ,toList_madeCells_one,qaZ]
 have Y:C.length=n:=by rw [H,qaD,qcB,hl]
 have av:W1.heap[w.heap.size]? = some (.cells Z.toArray 3 (0,0)):=by rw [hZ,Array.toArray_toList];exact N1.o.2
 have U:0<C.length->some (⟨w.heap.size,0,none⟩:Addr)=some ⟨w.heap.size,0,none⟩/\∃ad,ao=some ad/\∀j v,C[j]? = some v->W1.cell? (ad.add j)=some v:=fun h0=>by
  have ha:=hN.addr (by rw [qcB];omega);refine⟨rfl,⟨b,off,none⟩,ha,fun j v hj=>?_⟩;rw [H,qaP] at hj;have ae:j<(natI l).length:=by
   rcases qaB j (natI l).length with h | h
   ·exact h
   ·rw [qaR h] at hj;cases hj
  rw [qac ae] at hj;have hc:=(hN.below N1.o.1).cell j ae;rw [Addr.add_mid,hc,qaa,qac ae];exact hj
 have O:∀v∈C,v.oneCell'=true:=fun v hv=>by rw [H] at hv;exact qiD _ v hv
 have J:C.length=Nat.min n n:=by rw [Y];exact (Nat.min_self n).symm
 have I:0+C.length<=Z.length:=by omega
 have V:=qH (qA U (qA O (qA J (qA I (qA av N1.o.1)))));have HS:=qH hS0;have E:=qH (qA H (qA aj (qA Y hl)));clear hS0 hN hF U O J I av N1 H aj Y hl hZ;go_enter func38,ntmps38;go_upto_region 2 with fail;rw [<-ai];clear ai az
 go_wp2_with (first | (refine wpList_copy_splice rfl (.tmp 9) (.tmp 10) 30 30 rfl 3 underlying30 (by kernel_rfl) (some ⟨w.heap.size,0,none⟩) ao n n n c rfl rfl w.heap.size 0 Z 3 V.o.2.2.2.2.1 C V.o.2.2.1 V.o.1 V.o.2.2.2.1 V.o.2.1 w.heap.size w V.o.2.2.2.2.2 qN ?_) | fail)
 intro w3 ax aa;have ah:NatR w3 w.heap.size w.heap.size n n l:=⟨E.o.2.2.2,by
  have h:=Hu.o ax;have e:splice Z 0 C=C:=by
   unfold splice;rw [List.take_zero,qbp,qaT,List.drop_eq_nil_of_le (by rw [E.o.2.1,E.o.2.2.1];exact qad _),qbj]
  rw [e] at h;have:=qfB (B:=w.heap.size) (n:=n) h qN (by show C.length=n;exact E.o.2.2.1) (by unfold maxLen;omega);unfold IOwn;rw [qcB,E.o.2.2.2];have e2:C.toArray.toList=(natI l).map fun z=>Value.int .i64 z:=E.o.1
  rw [e2] at this;exact this⟩
 have ag:=qH (HS.o w3 aa ah);have ay:=qH aa;clear ah ax aa HS V;go_wp2_with fail;refine ag.o.mono ?_;rintro e w4 ⟨rfl,h1,f2,h2,h3⟩;have HE:=qH (qA h2 (qA h3 (qc7 ay.o h1 qN)));clear h1 h2 h3 ag;go_wp2;go_ret;exact⟨_,f2,rfl,HE.o.1,HE.o.2.1,HE.o.2.2⟩
theorem qnB (n:Nat):fnl n (fun k=>k)=List.range n:=by unfold fnl;exact List.map_id' _
theorem up_sub:∀{B A:List Nat},Up B->Up A->(∀x∈A,x∈B)->A.Sublist B
 | [],A,_,_,h=>by
  cases A with
  | nil=>exact List.Sublist.slnil
  | cons a A=>exact absurd (h a (qba ..)) (List.not_mem_nil)
 | b :: B,[],_,_,_=>List.nil_sublist _
 | b :: B,a :: A,hB,E,h=>by
  obtain⟨q1,q2⟩:=qbF.1 hB;obtain⟨p1,p2⟩:=qbF.1 E
  by_cases e:a=b
  ·subst e;exact (up_sub q2 p2 fun x hx=>by
    rcases qat.1 (h x (qbn _ hx)) with e | h1
    ·subst e;exact absurd (p1 x hx) (Nat.lt_irrefl _)
    ·exact h1).cons_cons a
  ·have F:a∈B:=(qat.1 (h a (qba ..))).resolve_left e;exact (up_sub q2 E fun x hx=>by
    rcases qat.1 (h x hx) with e1 | h1
    ·subst e1;rcases qat.1 hx with e2 | h2
     ·exact absurd e2.symm e
     ·have:=p1 x h2;have:=q1 a F;omega
    ·exact h1).cons b
def orF (s:Nat->Rat) (n j:Nat):Nat:=(qce s n).getD j 0
theorem qeG {s:Nat->Rat} {n k:Nat} (h:k<=n):fnl k (orF s n)=(qce s n).take k:=by
 refine List.ext_getElem (by rw [qdC,qao,qcr];omega) fun j E H=>?_
 have F:=qdd (n:=k) (k:=j) (orF s n) (by rw [qdC] at E;exact E);rw [qac E] at F;rw [qag F,List.getElem_take];unfold orF;rw [qaa,qac];rfl
theorem qiQ {s:Nat->Rat} {n i j:Nat} (I:i<n) (J:j<n) (E:i≠j):orF s n i≠orF s n j:=fun e=>by
 unfold orF at e;have F:i<(qce s n).length:=by rw [qcr];exact I
 have H:j<(qce s n).length:=by rw [qcr];exact J
 rw [qaa,qaa,qac F,qac H] at e;exact E ((List.getElem_inj (qeh s n)).1 e)
theorem orF_par {s:Nat->Rat} {n k:Nat} (h:k<=n):Par (fun a b=>a<b) (fun a b=>a<b) (orF s n) 0 k:=fun i j _ H I=>⟨Iff.rfl,fun E=>by
 have F:¬orF s n j<orF s n i:=E;have:=qiQ (s:=s) (n:=n) (i:=i) (j:=j) (by omega) (by omega) (by omega)
 show orF s n i<orF s n j
 omega⟩
theorem orF_mst {s:Nat->Rat} {n k m:Nat} (h:k<=n) {I E:Nat->Nat} (H:Mer (fun a b=>a<b) (orF s n) I 0 m) (F:Mer (fun a b=>a<b) I E m k):Mst (fun a b=>a<b) (fun a b=>a<b) E 0 m k:=by
 refine⟨H.inc.congr fun x _ J=>F.o x (by omega),F.inc,fun i j _ _ _ _=>Iff.rfl,fun i j _ J O U V=>?_⟩;obtain⟨a,_,a2,ea⟩:=H.mem i (qaj _) J;obtain⟨b,b1,b2,eb⟩:=F.mem j O U;have Z:E i=orF s n a:=by rw [F.o i (by omega),ea]
 have e2:E j=orF s n b:=by rw [eb,H.o b (by omega)]
 have Y:¬E j<E i:=V;have:=qiQ (s:=s) (n:=n) (i:=a) (j:=b) (by omega) (by omega) (by omega)
 show E i<E j
 omega
theorem orF_best {s:Nat->Rat} {n k:Nat} (h:k<=n) {E:Nat->Nat} (U:Mer (fun a b=>a<b) (orF s n) E 0 k):fnl k E=bestL s n k:=by
 have e:∀j (F:j<(fnl k E).length),(fnl k E)[j]=E j:=fun j F=>by
  have J:=qdd (n:=k) (k:=j) E (by rw [qdC] at F;exact F);rw [qac F] at J;exact qag J
 have I:Up (fnl k E):=List.pairwise_iff_getElem.2 fun i j O F H=>by
  rw [e,e];rw [qdC] at F;exact U.inc i j (qaj _) H F
 have V:=up_sub (qfK s n k) I fun x hx=>by
  obtain⟨i,O,rfl⟩:=qbb.1 hx;obtain⟨j,_,j2,e⟩:=U.mem i (qaj _) (qaq.1 O);rw [e];refine (qdB s n k).mem_iff.2 ?_;rw [<-qeG h];exact qbb.2 ⟨j,qaq.2 j2,rfl⟩
 exact V.eq_of_length (by rw [qdC,qg7 h])
theorem qhA (R b off c:Nat) (O:Option Addr) (l:List FT) (w:World) (hl:l.length=R) (hR:R<=4611686018427387904) (hF:FCells w O b off l) :
  Calls prog 13 #[.slice O R c] w fun e w'=>OrdAs w l e w':=by
 obtain⟨W1,V,N1⟩:=nw1 w #[.slice O R c] 22;have HE:=qH (qha R b off c O l W1 hl hR (hF.below N1.o.1));have I:=qH (qA hF hl);have c0:=qC _ _ 0 _ _ _ N1.o.2;clear hF hl;go_enter func13,ntmps13;go_upto_region 1 with fail;rw [<-V];clear V;go_wp2_with fail;refine HE.o.mono ?_;rintro e w2 ⟨z,rfl,hz,Z⟩;have K2:=N1.below Z;have HZ:=qH hz;clear Z hz c0 HE N1
 by_cases E:z=0
 case neg =>
  have ah:(z == (0:Int))=false:=beq_false_of_ne E;have aj:(z != (0:Int))=true:=by rw [bne,ah];rfl
  have HN:=qH E;clear E;go_wp2_with fail
  go_ret2
  exact⟨K2.o.1,.inl ⟨z,HN.o,HZ.o,rfl⟩⟩
 subst E;have hA:FAll l/\R<=40:=by
  rcases HZ.o with ⟨_,h⟩ | ⟨_,_,h⟩ | ⟨h1,h,_⟩
  ·cases h
  ·cases h
  ·exact⟨h,by rw [<-I.o.2];exact h1⟩
 have U:=hA.2;have HA:=qH hA.1;clear hA;obtain⟨W3,Y,N3⟩:=nw1 w2 #[.int .i64 0] 31;have K3:=(K2.below N3.o.1).also (q:=fun W=>W.heap[w2.heap.size]? = some (.cells #[.int .i64 0] 31 (0,0))) N3.o.2;have c1:=qC _ _ 0 _ _ _ K3.o.1.2;have ai:w.heap.size<w2.heap.size:=(qG K2.o.2).1;clear N3 K2;go_upto_region 5 with fail;rw [<-Y];clear Y;go_wp2_with fail;refine (qi0 R W3 (by omega)).mono ?_;rintro e w4 ⟨g4,rfl,F,aa⟩;have J:=(K3.below aa).also (q:=fun W=>NatR W W3.heap.size g4 R R (List.range R)) F;have ag:=@hmf_ prog;have HS:=qH (qgK (Tix (lval l)) (fun a b=>lval l a<lval l b) Tix.trans (cfL l) 40 #[.pointer (some ⟨w.heap.size,0,none⟩),.pointer (some ⟨w2.heap.size,0,none⟩)] (some ⟨g4,0,none⟩) g4 0 R R (fun k=>k) w4 (fun x _ y _=>cfL_lt l x y) U (by
   have h:=F.cells (m:=R) qN;rw [qnB];rwa [qah (by simp)] at h) (fun a b W=>enters func40 (by kernel_rfl) (by kernel_rfl) _ W) (qow _ 0 R) (fun f0 f1 h0 h1=>qmr h0 h1) (fun W Z x hx y hy=>qfi l R b off c w.heap.size w2.heap.size x y O W I.o.2 HA.o (qaq.1 (qnB R▸hx)) (qaq.1 (qnB R▸hy)) (zkeep Z _ _ J.o.1.1.2) (I.o.1.below (J.o.1.1.1.trans (Z.mono J.o.1.1.1.size)))))
 clear aa F c1 K3;go_wp2_with fail;refine HS.o.mono ?_;rintro e w5 ⟨g5,f5,rfl,H,af,ae⟩;rw [qoc af] at H;clear af;have K5:=J.below ae;have c5:=qC _ _ 0 _ _ _ K5.o.1.2;have HN:=qH (H.mono (qak J.o.1.1.1.size qN));clear ae H HS ag;go_wp2_with fail
 go_ret2
 refine⟨K5.o.1.1.1,.inr ⟨HZ.o,g5,by rw [I.o.2];rfl,?_⟩⟩;rw [I.o.2];exact HN.o
theorem qlT (R b off c:Nat) (m:Int) (ao:Option Addr) (l:List FT) (w:World) (hl:l.length=R) (hR:R<=4611686018427387904) (hF:FCells w ao b off l) :
  Calls prog 16 #[.slice ao R c,.int .i64 m] w fun e w'=>qfH w l m e w':=by
 have HO:=qH (qhA R b off c ao l w hl hR hF);have U:=qH (qA hl True.intro);clear hF hl;go_enter func16,ntmps16;go_wp2_with fail;refine HO.o.mono ?_;rintro e w2 ⟨hb,⟨z,J,O,rfl⟩ | ⟨O,g,rfl,hN⟩⟩
 ·have aa:(z == (0:Int))=false:=beq_false_of_ne J;have ag:(z != (0:Int))=true:=by rw [bne,aa];rfl
  have F:=qH (qA J (qA O hb));clear J O hb HO;go_wp2_with fail
  go_ret2
  exact⟨F.o.2.2,.inl ⟨z,F.o.1,F.o.2.1,rfl⟩⟩
 have ae:R<=40:=by
  rcases O with ⟨_,h⟩ | ⟨_,_,h⟩ | ⟨h,_,_⟩
  ·cases h
  ·cases h
  ·rw [<-U.o.1];exact h
 rw [U.o.1] at hN ⊢;have F:=qH (qA hN (qA hb O));clear hb O hN HO
 by_cases h0:m<0
 ·have V:=qH h0;clear V;have V:Hu (¬(0<=m/\m<=(l.length:Int))):=qH fun h=>by have:=h.1;omega
  go_wp2_with fail
  go_ret2
  exact⟨F.o.2.1,.inr (.inl ⟨F.o.2.2,V.o,rfl⟩)⟩
 by_cases h1:m > (R:Int)
 ·have V:Hu (¬(0<=m/\m<=(l.length:Int))):=qH fun h=>by have:=h.2;rw [U.o.1] at this;omega
  go_wp2_with fail
  go_ret2
  exact⟨F.o.2.1,.inr (.inl ⟨F.o.2.2,V.o,rfl⟩)⟩
 obtain⟨k,rfl⟩:∃k:Nat,m=(k:Int):=⟨m.toNat,by omega⟩;have E:k<=R:=by omega
 have af:(k:Int)<=(R:Int):=by omega
 have H:∀x∈(qce (lval l) R).take k,x<1000:=fun x hx=>by
  have:=qaq.1 ((qcF (lval l) R).mem_iff.1 (qbd hx));omega
 have HS:=qH (qgK (fun a b=>a<b) (fun a b=>a<b) (fun a b c h1 h2=>by omega) (fun a b=>(a:Int)-(b:Int)) 44 #[] (some ⟨g,0,none⟩) g 0 k R (orF (lval l) R) w2 (fun x _ y _=>by omega) (by omega) (by rw [qeG E];exact F.o.1.cells E) (fun a b W=>enters func44 (by kernel_rfl) (by kernel_rfl) _ W) (orF_par E) (fun f0 f1 h0 h1=>orF_mst E h0 h1) (fun W _ x hx y hy=>qi8 x y W (H x (qeG E▸hx)) (H y (qeG E▸hy))));clear H;go_wp2_with fail;refine HS.o.mono ?_;rintro e w5 ⟨g5,f5,rfl,I,Z,Y⟩;rw [orF_best E Z] at I;clear Z;have HE:=qH (qA (I.mono F.o.2.1.size) (F.o.2.1.trans (Y.mono F.o.2.1.size)));clear I Y HS;go_wp2_with fail
 go_ret2
 refine⟨HE.o.2,.inr (.inr ⟨F.o.2.2,g5,k,rfl,by rw [U.o.1];exact E,rfl,?_⟩)⟩;rw [U.o.1];exact HE.o.1
theorem qhx {s:Nat->Rat} {n j:Nat} (E:j<n):(qce s n)[j]? = some (orF s n j):=by
 have h:j<(qce s n).length:=by rw [qcr];exact E
 unfold orF;rw [qaa,qac h];rfl
theorem qim {s:Nat->Rat} {n j:Nat} (E:j<n):orF s n j<n :=
 qaq.1 ((qcF s n).mem_iff.1 (qbC (qhx E)))
theorem orF_stab {s:Nat->Rat} {n i j:Nat} (F:i<j) (U:j<n):s (orF s n i)<s (orF s n j)\/(s (orF s n i)=s (orF s n j)/\orF s n i<orF s n j):=by
 have J:i<(qce s n).length:=by rw [qcr];omega
 have O:j<(qce s n).length:=by rw [qcr];exact U
 have h:=List.pairwise_iff_getElem.1 (qfa s n) i j J O F;have e:∀k (E:k<(qce s n).length),(qce s n)[k]=orF s n k:=fun k E=>by
  have:=qhx (s:=s) (n:=n) (j:=k) (by rw [qcr] at E;exact E);rw [qac E] at this;exact qag this
 have H:=e i J;have I:=e j O;unfold qce at H I;rw [H,I] at h;exact h
def seenL (s:Nat->Rat) (n i:Nat):List Value:=(List.range n).map fun k=>.bool (decide (k∈(qce s n).take i))
theorem qge (s:Nat->Rat) (n i:Nat):(seenL s n i).length=n:=by unfold seenL;simp
theorem qeZ {s:Nat->Rat} {n i j:Nat} (E:j<n):(seenL s n i)[j]? = some (.bool (decide (j∈(qce s n).take i))):=by
 unfold seenL;rw [qaP,qbG E];rfl
theorem qmL (s:Nat->Rat) (n:Nat):seenL s n 0=List.replicate n (.bool false):=by
 refine List.ext_getElem? fun j=>?_
 rcases qaB j n with hj | hj
 ·rw [qeZ hj,qbq,if_pos hj];rfl
 ·rw [qaR (by rw [qge];exact hj),qaR (by rw [qaZ];exact hj)]
theorem seenL_at {s:Nat->Rat} {n i:Nat} (E:i<n):(seenL s n i)[orF s n i]? = some (.bool false):=by
 rw [qeZ (qim E),qU];rw [<-qeG (qan E)];intro h;obtain⟨j,F,e⟩:=qbb.1 h;have F:=qaq.1 F;exact qiQ (s:=s) (n:=n) (i:=j) (j:=i) (by omega) E (by omega) e
theorem qoS {s:Nat->Rat} {n i:Nat} (E:i<n):(seenL s n i).set (orF s n i) (.bool true)=seenL s n (i+1):=by
 have F:∀k,k∈(qce s n).take (i+1)↔(k∈(qce s n).take i\/k=orF s n i):=fun k=>by
  rw [qbw,qhx E,qaL];simp
 refine List.ext_getElem? fun j=>?_
 rw [List.getElem?_set];rcases qaB j n with hj | hj
 ·rw [qeZ hj,qeZ hj,qge,if_pos (qim E)];split
  ·rename_i e;rw [qV ((F j).2 (.inr e.symm))]
  ·rename_i e
   congr 2
   exact decide_eq_decide.2 ⟨fun h=>(F j).2 (.inl h),fun h=>((F j).1 h).resolve_right fun H=>e H.symm⟩
 ·have:=qim (s:=s) E;rw [if_neg (by omega),qaR (by rw [qge];exact hj),qaR (by rw [qge];exact hj)]
theorem infoBl:(Tryz.prog.info? 4).map (fun i=>(i.zero,i.size,i.bytes))=some (some (.bool false),1,1):=by kernel_rfl
theorem make_bs (n:Nat) (J:n<=1000) (w:World):(Instr.makeSlice 79 (.int .i64 (n:Int)) (.int .i64 (n:Int))).run prog w=.ok (.slice (some ⟨w.heap.size,0,none⟩) n n) (w.alloc (.cells (madeCells #[.bool false] n) 4)):=by
 obtain⟨i,I,E,F,H⟩:=info_parts infoBl;have h:=run_make (P:=prog) w 79 4 i _ underlying79 I E .i64 .i64 (n:Int) (n:Int) (by omega) (Int.le_refl _) (by rw [H];omega) (by omega);rw [F,qbO,qbV] at h;exact h
theorem qoT (s:Nat->Rat) (n:Nat):madeCells #[.bool false] n=(seenL s n 0).toArray:=by
 rw [qmL,<-toList_madeCells_one]
def qdz (s:Nat->Rat) (n t i:Nat) (k:Int):Prop :=
 (k = -1/\∀j,j<i->j∈(qce s n).take t)\/∃c:Nat,k=(c:Int)/\c<i/\c∉(qce s n).take t/\∀j,j<i->j∉(qce s n).take t->s c<s j\/(s c=s j/\c<=j)
theorem qdz.start (s:Nat->Rat) (n t:Nat):qdz s n t 0 (-1):=.inl ⟨rfl,fun j h=>absurd h (qb1 j)⟩
theorem qdz.skip {s:Nat->Rat} {n t i:Nat} {k:Int} (h:qdz s n t i k) (I:i∈(qce s n).take t):qdz s n t (i+1) k:=by
 rcases h with ⟨E,H⟩ | ⟨c,E,H,J,O⟩
 ·refine .inl ⟨E,fun j U=>?_⟩
  by_cases e:j=i
  ·rw [e];exact I
  ·exact H j (by omega)
 ·refine .inr ⟨c,E,by omega,J,fun j U F=>?_⟩
  by_cases e:j=i
  ·rw [e] at F;exact absurd I F
  ·exact O j (by omega) F
theorem qdz.first {s:Nat->Rat} {n t i:Nat} (h:qdz s n t i (-1)) (F:i∉(qce s n).take t):qdz s n t (i+1) (i:Int):=by
 rcases h with ⟨_,E⟩ | ⟨c,I,_⟩
 ·refine .inr ⟨i,rfl,qbU i,F,fun j J H=>?_⟩
  by_cases e:j=i
  ·rw [e];exact .inr ⟨rfl,qad _⟩
  ·exact absurd (E j (by omega)) H
 ·omega
theorem qdz.less {s:Nat->Rat} {n t i c:Nat} (h:qdz s n t i (c:Int)) (H:i∉(qce s n).take t) (V:s i<s c):qdz s n t (i+1) (i:Int):=by
 rcases h with ⟨E,_⟩ | ⟨c',E,J,O,F⟩
 ·omega
 ·obtain rfl:c=c':=by omega
  refine .inr ⟨i,rfl,qbU i,H,fun j U I=>?_⟩
  by_cases e:j=i
  ·rw [e];exact .inr ⟨rfl,qad _⟩
  ·rcases F j (by omega) I with h | ⟨h,_⟩
   ·exact .inl (by grind)
   ·exact .inl (by grind)
theorem qdz.more {s:Nat->Rat} {n t i c:Nat} (h:qdz s n t i (c:Int)) (V:¬s i<s c):qdz s n t (i+1) (c:Int):=by
 rcases h with ⟨F,_⟩ | ⟨c',F,O,H,I⟩
 ·omega
 ·obtain rfl:c=c':=by omega
  refine .inr ⟨c,rfl,by omega,H,fun j U J=>?_⟩
  by_cases e:j=i
  ·rw [e]
   by_cases E:s c=s i
   ·exact .inr ⟨E,by omega⟩
   ·exact .inl (by grind)
  ·exact I j (by omega) J
theorem qhy {s:Nat->Rat} {n t:Nat} (F:t<n):orF s n t∉(qce s n).take t:=by
 rw [<-qeG (qan F)];intro h;obtain⟨j,E,e⟩:=qbb.1 h;have E:=qaq.1 E;exact qiQ (s:=s) (n:=n) (i:=j) (j:=t) (by omega) F (by omega) e
theorem qdz.done {s:Nat->Rat} {n t:Nat} {k:Int} (J:t<n) (h:qdz s n t n k):k=(orF s n t:Int):=by
 rcases h with ⟨_,O⟩ | ⟨c,Y,O,Z,h4⟩
 ·exact absurd (O _ (qim J)) (qhy J)
 ·have hc:c∈qce s n:=(qcF s n).mem_iff.2 (qaq.2 O);obtain⟨j,U⟩:=List.getElem?_of_mem hc;have H:j<n:=by have:=(qbI.1 U).1;rwa [qcr] at this
  have e:c=orF s n j:=by rw [qhx H] at U;exact (qag U).symm
  have I:¬j<t:=fun I=>Z (by
   rw [e,<-qeG (qan J)];exact qbb.2 ⟨j,qaq.2 I,rfl⟩)
  by_cases V:j=t
  ·rw [Y,e,V]
  ·have E:=orF_stab (s:=s) (i:=t) (j:=j) (by omega) H;rw [<-e] at E;have F:=h4 _ (qim J) (qhy J);rcases E with E | ⟨E,h7⟩ <;> rcases F with F | ⟨F,h8⟩
   ·exact absurd (show s (orF s n t)<s (orF s n t) by grind) (by grind)
   ·rw [F] at E;exact absurd E (by grind)
   ·rw [E] at F;exact absurd F (by grind)
   ·omega
def riseL (s:Nat->Rat) (n m i:Nat):List Nat:=(List.range i).filter fun k=>decide (k∈(qce s n).take m)
theorem qmF (s:Nat->Rat) (n m i:Nat):riseL s n m (i+1)=riseL s n m i++if i∈(qce s n).take m then [i] else []:=by
 unfold riseL;rw [List.range_succ,List.filter_append]
 congr 1
 by_cases h:i∈(qce s n).take m
 ·rw [if_pos h];simp [h]
 ·rw [if_neg h];simp [h]
theorem qmE {s:Nat->Rat} {n j i:Nat} (F:j<n):(if i∈(qce s n).take (j+1) then [i] else [])=(if i∈(qce s n).take j then [i] else [])++if orF s n j=i then [i] else []:=by
 have E:i∈(qce s n).take (j+1)↔(i∈(qce s n).take j\/i=orF s n j):=by
  rw [qbw,qhx F,qaL];simp
 by_cases e:orF s n j=i
 ·have J:i∉(qce s n).take j:=by rw [<-e];exact qhy F
  rw [if_pos (E.2 (.inr e.symm)),if_neg J,if_pos e];rfl
 ·rw [if_neg e,qbj]
  by_cases h:i∈(qce s n).take j
  ·rw [if_pos h,if_pos (E.2 (.inl h))]
  ·rw [if_neg h,if_neg fun I=>(E.1 I).elim h fun H=>e H.symm]
theorem qmD {s:Nat->Rat} {n m:Nat}:riseL s n m n=bestL s n m:=by
 have E:Up (riseL s n m n):=List.Pairwise.filter _ (qgj n);refine E.eq (qfK s n m) ?_;have F:((qce s n).take m).Nodup:=(qeh s n).sublist (List.take_sublist _ _);refine List.Perm.trans ?_ (qdB s n m).symm;refine (List.perm_ext_iff_of_nodup E.nodup F).2 fun k=>?_
 unfold riseL;rw [List.mem_filter,qaq,decide_eq_true_eq];exact⟨fun h=>h.2,fun h=>⟨qaq.1 ((qcF s n).mem_iff.1 (qbd h)),h⟩⟩
