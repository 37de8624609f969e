/- Ad, part 46: Sf Sg Sh Si Cv Cw Sj -/
import Derived.Test.YtfminfgabiipjaaGreatDoorAd0
import Derived.Test.YtfminfgabiipjaaGreatDoorAd25
import Derived.Test.YtfminfgabiipjaaGreatDoorAd27
import Derived.Test.YtfminfgabiipjaaGreatDoorAd31
import Derived.Test.YtfminfgabiipjaaGreatDoorAd36
import Derived.Test.YtfminfgabiipjaaGreatDoorAd38
import Derived.Test.YtfminfgabiipjaaGreatDoorAd42
import Derived.Test.YtfminfgabiipjaaGreatDoorAd45
set_option maxRecDepth 100000
set_option maxHeartbeats 16000000
namespace Go.Proofs.YtfminfgabiipjaaGreatDoor.p4
open Go.RowKit
def SaysB (w:World) (p:Prop) (e:Ending) (w':World):Prop:=∃r:Bool,e=.returned (.bool r)∧(r=true↔p)∧Below w.heap.size w w'
theorem SaysB.no {w w':World} {p:Prop} (h:¬p) (hb:Below w.heap.size w w'):SaysB w p (.returned (.bool false)) w':=⟨false,rfl,⟨fun h=>(by cases h),fun k=>absurd k h⟩,hb⟩
theorem SaysB.yes {w w':World} {p:Prop} (h:p) (hb:Below w.heap.size w w'):SaysB w p (.returned (.bool true)) w':=⟨true,rfl,⟨fun _=>h,fun _=>rfl⟩,hb⟩
theorem qdD (ao:Option Addr) (b off n c:Nat) (l:List FT) (w:World) (hl:l.length=n) (hn:n≤1000000) (hs:∀k,k<n→(l.getD k fd0).1.size≤140737488355328∧(l.getD k fd0).2.size≤140737488355328) (hF:FCells w ao b off l) :
  Calls Tryz.prog 57 #[.slice ao n c] w fun e w'=>SaysB w (FAll l) e w':=by
 have HF:=qH (qA hF (qA hl hs))
 clear hF hl hs
 go_enter Tryz.func57,Tryz.ntmps57
 go_wp2_with fail
 go_loopw [3] (fun x3 W=>∃k:Nat,k≤n∧x3=.int .i64 k∧Hid (∀i,i<k→FOk (l.getD i fd0).1.data.toList (l.getD i fd0).2.data.toList)∧Hid (Below w.heap.size w W)) (fun x3 _=>n-(intOf x3).toNat)
 case atStart=>exact⟨0,qam _,rfl,qH (fun i hi=>absurd hi (by omega)),qH qB⟩
 case round =>
  obtain⟨k,hk,rfl,hJ,hB⟩:=hrel
  by_cases hkn:k<n
  ·have hki:(k:Int)<n:=by omega
   have har:=HF.out.1.addr (by have:=HF.out.2.1;omega)
   subst har
   obtain⟨d0,d1⟩:=(HF.out.1.below hB.out).cell k (by have:=HF.out.2.1;omega)
   have hsz:=HF.out.2.2 k hkn
   obtain⟨N,hN⟩:∃N,(l.getD k fd0).1=N:=⟨_,rfl⟩
   obtain⟨D,hD⟩:∃D,(l.getD k fd0).2=D:=⟨_,rfl⟩
   rw [hN] at d0 hsz
   rw [hD] at d1 hsz
   have HX:=qH (qA hN (qA hD hsz))
   clear hN hD hsz
   go_wp2_with fail
   refine (qhm N D HX.out.2.2.1 HX.out.2.2.2 _).mono ?_
   rintro e w2 ⟨ok,rfl,hok,hb⟩
   have HO:=qH (qA hok (hB.out.trans (hb.mono hB.out.size)))
   clear hok hb
   cases ok with
   | true =>
    go_wp2_with fail
    go_roundw
    case rel=>exact⟨k+1,hkn,by go_num,qH (fun i hi=>by
     rcases (show i<k∨i=k by omega) with h | h
     ·exact hJ.out i h
     ·rw [h,HX.out.1,HX.out.2.1];exact HO.out.1.1 (by first | exact rfl | trivial)),qH HO.out.2⟩
    case measure=>simp [intOf];omega
   | false =>
    go_wp2_with fail
    go_ret
    exact .no (fun h=>absurd (HO.out.1.2 (by have:=h k (by have:=HF.out.2.1;omega);rwa [HX.out.1,HX.out.2.1] at this)) (by decide)) HO.out.2
  ·obtain rfl:k=n:=by omega
   go_wp2_with fail
   go_ret
   exact .yes (fun i hi=>hJ.out i (by have:=HF.out.2.1;omega)) hB.out
abbrev QV:=Bool×(Option Addr×Nat×Nat)×(Option Addr×Nat×Nat)
def qcR (v:QV):List Value:=[.bool v.1,.slice v.2.1.1 v.2.1.2.1 v.2.1.2.2,.bool false,.slice v.2.2.1 v.2.2.2.1 v.2.2.2.2]
abbrev qagg (v:QV):Value:=.agg #[.bool v.1,.slice v.2.1.1 v.2.1.2.1 v.2.1.2.2,.bool false,.slice v.2.2.1 v.2.2.2.1 v.2.2.2.2]
def qd:QV:=(false,(none,0,0),(none,0,0))
theorem qbK.qv {W:World} {v:Value} {q:Rat} (h:qbK W v q):∃u:QV,v=qagg u:=by
 obtain⟨b,a,n,c,a',n',c',rfl⟩:=h.shape
 exact⟨(b,(a,n,c),(a',n',c')),rfl⟩
def qflat (l:List QV):List Value:=l.flatMap qcR
theorem qis (l:List QV) (v:QV):qflat (l++[v])=qflat l++qcR v:=by unfold qflat;rw [List.flatMap_append];simp
theorem qit (l:List QV):(qflat l).length=l.length*4:=by
 unfold qflat
 induction l with
 | nil=>rfl
 | cons v l ih=>rw [List.flatMap_cons,qag,ih,qbw];show 4+_=_;omega
theorem qgN:∀(l:List QV) (k r:Nat),k<l.length→r<4→(qflat l)[k*4+r]? = (qcR (l.getD k qd))[r]?
 | v :: l,0,r,_,hr=>by
  show (qcR v++qflat l)[0*4+r]? = (qcR v)[r]?
  rw [Nat.zero_mul,qa2,qaB (show r<4 from hr)]
 | v :: l,k+1,r,hk,hr=>by
  show (qcR v++qflat l)[(k+1)*4+r]? = (qcR (l.getD k qd))[r]?
  rw [show (k+1)*4+r=4+(k*4+r) by omega,qas (show (qcR v).length≤4+(k*4+r) from Nat.le_add_right _ _),show 4+(k*4+r)-(qcR v).length=k*4+r from Nat.add_sub_cancel_left _ _]
  exact qgN l k r (by simpa using hk) hr
def QsAt (W:World) (l:List QV) (f:Nat→Rat):Prop:=∀k,k<l.length→qbK W (qagg (l.getD k qd)) (f k)
theorem QsAt.snoc {W:World} {l:List QV} {f:Nat→Rat} {v:QV} {q:Rat} (h:QsAt W l f) (hv:qbK W (qagg v) q) (hq:f l.length=q):QsAt W (l++[v]) f:=fun k hk=>by
 rw [qag,qaE] at hk
 by_cases e:k<l.length
 ·rw [qaa,qaB e,←qaa];exact h k e
 ·obtain rfl:k=l.length:=by omega
  rw [qaa,qas qN,qaH]
  rw [hq];exact hv
instance stays_qs {l:List QV} {f:Nat→Rat}:Stays fun W=>QsAt W l f:=⟨fun h hb k hk=>(h k hk).below hb⟩
theorem qfE {cur:Array Value} (h:∀x∈cur.toList,qcg x):∀x∈cur.toList,∀d,x≠.int .i64 d:=fun x hx d=>h x hx .i64 d
theorem Rws.ratio {w w':World} {base size n:Nat} {e:TypeId} {v:Value} {xs:List Value} (h:Rws w base e size v n xs) (hg:w.grownBy w' v.ownBlock) {u:Value} {q:Rat} (hm:qbK w u q):qbK w' u q:=by
 rcases h.2 with ⟨rfl,_⟩ | ⟨g,cap,cur,rfl,_,h3,_,_,_,_,h4⟩
 ·exact hm.below (qdt hg)
 ·exact qcN hm hg h3 (qfE h4)
theorem infoQ:(Tryz.prog.info? 123).map (fun i=>(i.zero,i.size,i.bytes))=some (some (.agg #[.bool false,.slice none 0 0,.bool false,.slice none 0 0]),4,64):=by kernel_rfl
theorem qf8 (b:Bool):qcg (.bool b):=fun k d h=>by cases h
theorem qdu (v:QV):∀x∈qcR v,qcg x:=by
 intro x hx
 rcases qaF.1 hx with rfl | hx
 ·exact qf8 _
 rcases qaF.1 hx with rfl | hx
 ·exact qcF _ _ _
 rcases qaF.1 hx with rfl | hx
 ·exact qf8 _
 rw [qap.1 hx];exact qcF _ _ _
theorem qfJ (v:QV):∀x∈qcR v,x.oneCell'=true:=by
 intro x hx
 rcases qaF.1 hx with rfl | hx
 ·rfl
 rcases qaF.1 hx with rfl | hx
 ·rfl
 rcases qaF.1 hx with rfl | hx
 ·rfl
 rw [qap.1 hx];rfl
theorem qeI {P:Program} {ops:Array Oper} {rest:List Oper} {o:Oper} {a:Act} {w w':World} {Q:Exit→Act→World→Prop} (hgd:o.guard=none) (s x:Operand) {t:TypeId} (ho:o.op=.call { callee:=.builtin .append,args:=#[s,x],argTypes:=#[t,t] }) {v u v':Value} (hs:a.eval s=v) (hx:a.eval x=u)
  (hr:(Builtin.append_ #[t,t] o.type #[v,u]).run P w=.ok v' w') (h:wpList P ops Q rest (a.put o.dst v') w'):wpList P ops Q (o :: rest) a w:=by
 refine wpList_plain hgd fun K hK=>?_
 unfold Oper.wp execOp
 simp only [ho,resolve,invoke,builtin,Sem.run_bind,Sem.run_pure,Result.andThen_ok,List.map_toArray,qaM,qaW,hs,hx,hr]
 exact hK _ _ h
theorem qiA {w:World} {B:Nat} {v:Value} {n:Nat} {l:List QV} {u:QV} {g:Nat} (ty:TypeId) (hown:Rws w B 123 4 v n (qflat l)) (hB:B≤w.heap.size) (hg:w.heap[g]? = some (.cells (qcR u).toArray 123 (0,0))) (hn:n<1000000) :
  ∃v' w',(Builtin.append_ #[96,96] ty #[v,.slice (some ⟨g,0,none⟩) 1 1]).run Tryz.prog w=.ok v' w'∧Rws w' B 123 4 v' (n+1) (qflat (l++[u]))∧w.grownBy w' v.ownBlock:=by
 obtain⟨i0,hi,hz0,hz1,hz2⟩:=info_parts infoQ
 obtain⟨v',w',hr,h2,h3,_⟩:=qcl (P:=Tryz.prog) w B 96 ty 123 i0 _ 4 64 Tryz.underlying96 hi hz0 hz1 hz2 rfl (by decide) (qdu qd) v n (qflat l) hown ⟨g,0,none⟩ 1 1 (qcR u) rfl (fun j z hj=>by
  rw [Addr.add_mid,qa2]
  exact (cell_of_row _ _ j _ _ _ hg).trans ((qaz ..).trans hj)) (qfJ u) (qdu u) (by decide) (by unfold maxLen;omega) (by omega) hB
 exact⟨v',w',hr,by rw [qis];exact h2,h3⟩
theorem QsAt.keep {w w':World} {base size n:Nat} {e:TypeId} {v:Value} {xs:List Value} {l:List QV} {f:Nat→Rat} (h:Rws w base e size v n xs) (hg:w.grownBy w' v.ownBlock) (hq:QsAt w l f):QsAt w' l f:=fun k hk=>Rws.ratio h hg (hq k hk)
def QList (W:World) (B:Nat) (v:Value) (n:Nat) (f:Nat→Rat):Prop:=∃L:List QV,L.length=n∧Rws W B 123 4 v n (qflat L)∧QsAt W L f
theorem QList.below {W W':World} {B:Nat} {v:Value} {n:Nat} {f:Nat→Rat} (h:QList W B v n f) (hb:Below W.heap.size W W'):QList W' B v n f:=by
 obtain⟨L,h1,h2,h3⟩:=h
 exact⟨L,h1,h2.below hb,fun k hk=>(h3 k hk).below hb⟩
instance stays_qlist {B:Nat} {v:Value} {n:Nat} {f:Nat→Rat}:Stays fun W=>QList W B v n f:=⟨fun h hb=>h.below hb⟩
theorem QList.nil (W:World) (B:Nat) (f:Nat→Rat):QList W B (.slice none 0 0) 0 f:=⟨[],rfl,Rws.nil _ _ _ _,fun k hk=>absurd hk (by simp)⟩
theorem qey {ops:Array Oper} {rest:List Oper} {o:Oper} {a:Act} {w:World} {Q:Exit→Act→World→Prop} (hgd:o.guard=none) (s x:Operand)
  (ho:o.op=.call { callee:=.builtin .append,args:=#[s,x],argTypes:=#[96,96] }) {B:Nat} {v:Value} {n:Nat} {f:Nat→Rat} {u:QV} {q:Rat}
  (hown:QList w B v n f) (hB:B≤w.heap.size) (hs:a.eval s=v) {g:Nat} (hx:a.eval x=.slice (some ⟨g,0,none⟩) 1 1) (hgs:g=w.heap.size) (hn:n<1000000) (hu:qbK w (qagg u) q) (hq:f n=q)
  (h:∀v' w',QList w' B v' (n+1) f→Below B w w'→(∀x p,qbK w x p→qbK w' x p)→wpList Tryz.prog ops Q rest (a.put o.dst v') w') :
  wpList Tryz.prog ops Q (o :: rest) a (w.alloc (.cells #[.bool u.1,.slice u.2.1.1 u.2.1.2.1 u.2.1.2.2,.bool false,.slice u.2.2.1 u.2.2.2.1 u.2.2.2.2] 123)):=by
 subst hgs
 obtain⟨L,h1,h2,h3⟩:=hown
 have hba:Below w.heap.size w (w.alloc (.cells (qcR u).toArray 123)):=qbI qB qN
 obtain⟨v',w',hr,h4,hg⟩:=qiA (u:=u) o.type (h2.below hba) (qai hB hba.size) (heap_alloc_new w (.cells (qcR u).toArray 123)) hn
 have hgg:w.grownBy w' v.ownBlock:=qbL (qbR (qb3 _ _) hba) hg
 exact qeI hgd s x ho hs hx hr (h v' w' ⟨L++[u],by rw [qag,h1];rfl,h4,(QsAt.keep h2 hgg h3).snoc (Rws.ratio h2 hgg hu) (by rw [h1,hq])⟩ (h2.old hgg qB qN hB) fun x p hp=>Rws.ratio h2 hgg hp)
theorem qdx (ao:Option Addr) (b off n c:Nat) (l:List FT) (w:World) (hl:l.length=n) (hn:n≤1000) (hA:FAll l) (hF:FCells w ao b off l) :
  Calls Tryz.prog 59 #[.slice ao n c] w fun e w'=>∃v,e=.returned v∧QList w' w.heap.size v n (lval l)∧Below w.heap.size w w':=by
 have HF:=qH (qA hF (qA hl hA))
 clear hF hl hA
 go_enter Tryz.func59,Tryz.ntmps59
 go_wp2_with fail
 go_loopw [3,4] (fun x3 x4 W=>∃k:Nat,x4=.int .i64 k∧k≤n∧Kn (fun W=>Below w.heap.size w W∧QList W w.heap.size x3 k (lval l)) W) (fun _ x4 _=>n-(intOf x4).toNat)
 case atStart=>exact⟨0,rfl,qam _,.of ⟨Below.refl _ _,QList.nil _ _ _⟩⟩
 case round =>
  obtain⟨k,rfl,hk,K1⟩:=hrel
  by_cases hkn:k<n
  ·have hki:(k:Int)<n:=by omega
   have har:=HF.out.1.addr (by have:=HF.out.2.1;omega)
   subst har
   have hlk:=HF.out.2.1
   obtain⟨d0,d1⟩:=(HF.out.1.below K1.out.1).cell k (by omega)
   have hok:=HF.out.2.2 k (by omega)
   have hval:lval l k=fval (l.getD k fd0).1.data.toList (l.getD k fd0).2.data.toList:=rfl
   obtain⟨N,hN⟩:∃N,(l.getD k fd0).1=N:=⟨_,rfl⟩
   obtain⟨D,hD⟩:∃D,(l.getD k fd0).2=D:=⟨_,rfl⟩
   rw [hN] at d0 hok hval
   rw [hD] at d1 hok hval
   have HV:=qH (qA hok hval)
   clear hN hD hok hval hlk
   go_wp2_with fail
   refine (qhO N D HV.out.1 _).mono ?_
   rintro e w2 ⟨v,rfl,hb,hv⟩
   obtain⟨u,rfl⟩:=hv.qv
   have K2:=K1.on (q:=fun W=>qbK W _ _) hb hv
   clear hb hv
   go_wp2_with (first | (at_builtin;refine qey rfl _ _ rfl K2.out.1.2 K2.out.1.1.size rfl rfl rfl (by omega) K2.out.2 HV.out.2 ?_;intro v' w' h1 h2 _;have K3:=qH (qA h1 h2);clear h1 h2) | fail)
   go_roundw
   case rel=>exact⟨k+1,by go_num,hkn,.of ⟨K2.out.1.1.trans K3.out.2,K3.out.1⟩⟩
   case measure=>simp [intOf];omega
  ·obtain rfl:k=n:=by omega
   go_wp2_with fail
   go_ret
   exact⟨_,rfl,K1.out.2,K1.out.1⟩
def QRow (W:World) (g C:Nat) (f:Nat→Rat):Prop:=∃(cur:Array Value) (q:Nat→QV),W.heap[g]? = some (.cells cur 123 (0,0))∧(∀x∈cur.toList,qcg x) ∧
 ∀j,j<C→(∀r,r<4→cur[j*4+r]? = (qcR (q j))[r]?)∧qbK W (qagg (q j)) (f j)
theorem QRow.below {W W':World} {g C:Nat} {f:Nat→Rat} (h:QRow W g C f) (hb:Below W.heap.size W W'):QRow W' g C f:=by
 obtain⟨cur,q,h1,h2,h3⟩:=h
 exact⟨cur,q,zkeep hb _ _ h1,h2,fun j hj=>⟨(h3 j hj).1,(h3 j hj).2.below hb⟩⟩
theorem QRow.lt {W:World} {g C:Nat} {f:Nat→Rat} (h:QRow W g C f):g<W.heap.size:=by
 obtain⟨cur,q,h1,_⟩:=h
 exact (qG h1).1
theorem QList.row {W:World} {B:Nat} {v:Value} {n:Nat} {f:Nat→Rat} (h:QList W B v n f) (hn:0<n):∃g cap,v=.slice (some ⟨g,0,none⟩) n cap∧B≤g∧n≤cap∧QRow W g n f:=by
 obtain⟨L,hL,hR,hq⟩:=h
 rcases hR.2 with ⟨_,h0⟩ | ⟨g,cap,cur,rfl,h1,h2,h3,_,_,h4,h5⟩
 ·omega
 ·refine⟨g,cap,rfl,h1,h3,cur,fun j=>L.getD j qd,h2,h5,fun j hj=>⟨fun r hr=>?_,hq j (by omega)⟩⟩
  rw [←qgN L j r (by omega) hr,←h4,qaV (by omega),Array.getElem?_toList]
theorem QRow.grown {w w':World} {base size n:Nat} {e:TypeId} {v:Value} {xs:List Value} {g C:Nat} {f:Nat→Rat} (h:Rws w base e size v n xs) (hg:w.grownBy w' v.ownBlock) (hr:QRow w g C f) (he:e≠123):QRow w' g C f:=by
 obtain⟨cur,q,h1,h2,h3⟩:=hr
 exact⟨cur,q,h.row hg h1 he,h2,fun j hj=>⟨(h3 j hj).1,Rws.ratio h hg (h3 j hj).2⟩⟩
theorem infoQs:(Tryz.prog.info? 96).map (fun i=>(i.zero,i.size,i.bytes))=some (some (.slice none 0 0),1,24):=by kernel_rfl
def QRows (W:World) (B:Nat) (v:Value) (R C:Nat) (f:Nat→Nat→Rat):Prop:=∃(hs:List Value) (gs cp:Nat→Nat),Rws W B 96 1 v R hs ∧
 (∀i,i<R→hs[i]? = some (.slice (some ⟨gs i,0,none⟩) C (cp i))∧QRow W (gs i) C (f i)∧B≤gs i∧C≤cp i)∧∀i j,i<j→j<R→gs i<gs j
theorem QRows.below {W W':World} {B R C:Nat} {v:Value} {f:Nat→Nat→Rat} (h:QRows W B v R C f) (hb:Below W.heap.size W W'):QRows W' B v R C f:=by
 obtain⟨hs,gs,cp,h1,h2,h3⟩:=h
 exact⟨hs,gs,cp,h1.below hb,fun i hi=>⟨(h2 i hi).1,(h2 i hi).2.1.below hb,(h2 i hi).2.2⟩,h3⟩
instance stays_qrows {B R C:Nat} {v:Value} {f:Nat→Nat→Rat}:Stays fun W=>QRows W B v R C f:=⟨fun h hb=>h.below hb⟩
theorem QRows.nil (W:World) (B C:Nat) (f:Nat→Nat→Rat):QRows W B (.slice none 0 0) 0 C f:=⟨[],fun _=>0,fun _=>0,Rws.nil _ _ _ _,fun k hk=>absurd hk (by omega),fun i j _ hj=>absurd hj (by omega)⟩
theorem qjR {w0 w:World} {B:Nat} {v:Value} {n C:Nat} {f:Nat→Nat→Rat} {gr cr g:Nat} (ty:TypeId) (hown:QRows w0 B v n C f) (hw0:Below w0.heap.size w0 w) (hB:B≤w0.heap.size) (hg:w.heap[g]? = some (.cells #[.slice (some ⟨gr,0,none⟩) C cr] 96 (0,0))) (hn:n<1000000)
  (hr:QRow w gr C (f n)) (hgr:w0.heap.size≤gr) (hcr:C≤cr) :
  ∃v' w',(Builtin.append_ #[85,85] ty #[v,.slice (some ⟨g,0,none⟩) 1 1]).run Tryz.prog w=.ok v' w'∧QRows w' B v' (n+1) C f∧w.grownBy w' v.ownBlock∧(∀x p,qbK w x p→qbK w' x p):=by
 obtain⟨i0,hi,hz0,hz1,hz2⟩:=info_parts infoQs
 obtain⟨hs0,gs,cp,h1,h2,h3⟩:=hown
 have hl:hs0.length=n:=by have:=h1.1;omega
 have k1:=h1.below hw0
 obtain⟨v',w',hru,hown',hgrow,_⟩:=qcl (P:=Tryz.prog) w B 85 ty 96 i0 _ 1 24 Tryz.underlying85 hi hz0 hz1 hz2 rfl (by decide) (fun y hy=>by rw [qap.1 (show y∈[Value.slice none 0 0] from hy)];exact qcF _ _ _) v n hs0 k1 ⟨g,0,none⟩ 1 1 [.slice (some ⟨gr,0,none⟩) C cr] rfl (fun j u hj=>by
  rw [Addr.add_mid]
  match j,hj with
  | 0,hj=>exact (cell_of_row _ _ _ _ _ _ hg).trans hj) (fun u hu=>by rw [qap.1 hu];rfl) (fun u hu=>by rw [qap.1 hu];exact qcF _ _ _) (by decide) (by unfold maxLen;omega) (by omega) (qai hB hw0.size)
 have hne:96≠123:=by decide
 refine⟨v',w',hru,⟨hs0++[.slice (some ⟨gr,0,none⟩) C cr],fun i=>if i=n then gr else gs i,fun i=>if i=n then cr else cp i,hown',fun i hi=>?_,fun i j hij hj=>?_⟩,hgrow,fun y p hp=>Rws.ratio k1 hgrow hp⟩
 ·dsimp only
  by_cases e:i=n
  ·subst e
   rw [if_pos rfl,if_pos rfl]
   exact⟨by rw [qas (by omega),hl,qaH];rfl,QRow.grown k1 hgrow hr hne,qai hB hgr,hcr⟩
  ·rw [if_neg e,if_neg e]
   obtain⟨a1,a2,a3,a4⟩:=h2 i (by omega)
   exact⟨by rw [qaB (by omega)];exact a1,QRow.grown k1 hgrow (a2.below hw0) hne,a3,a4⟩
 ·dsimp only
  rw [if_neg (show i≠n by omega)]
  by_cases e:j=n
  ·rw [if_pos e]
   exact qaj (h2 i (by omega)).2.1.lt hgr
  ·rw [if_neg e];exact h3 i j hij (by omega)
theorem QRows.own {W:World} {B R C:Nat} {v:Value} {f:Nat→Nat→Rat} (h:QRows W B v R C f):∀k,v.ownBlock=some k→B≤k:=by
 obtain⟨hs,gs,cp,h1,_⟩:=h
 exact fun k hk=>(h1.lt k hk).1
theorem qjf {ops:Array Oper} {rest:List Oper} {o:Oper} {a:Act} {w:World} {Q:Exit→Act→World→Prop} (hgd:o.guard=none) (s x:Operand)
  (ho:o.op=.call { callee:=.builtin .append,args:=#[s,x],argTypes:=#[85,85] }) {B:Nat} {v:Value} {n C:Nat} {f:Nat→Nat→Rat} {w0:World} {gr cr:Nat}
  (hown:QRows w0 B v n C f) (hw0:Below w0.heap.size w0 w) (hB:B≤w0.heap.size) (hs:a.eval s=v) {g:Nat} (hx:a.eval x=.slice (some ⟨g,0,none⟩) 1 1) (hgs:g=w.heap.size) (hn:n<1000000)
  (hr:QRow w gr C (f n)) (hgr:w0.heap.size≤gr) (hcr:C≤cr)
  (h:∀v' w',QRows w' B v' (n+1) C f→Below B w w'→(∀x p,qbK w x p→qbK w' x p)→wpList Tryz.prog ops Q rest (a.put o.dst v') w') :
  wpList Tryz.prog ops Q (o :: rest) a (w.alloc (.cells #[.slice (some ⟨gr,0,none⟩) C cr] 96)):=by
 subst hgs
 have hba:Below w.heap.size w (w.alloc (.cells #[.slice (some ⟨gr,0,none⟩) C cr] 96)):=qbI qB qN
 have hBw:=qai hB hw0.size
 have hO:=hown.own
 obtain⟨v',w',hru,h1,h2,h3⟩:=qjR o.type hown (hw0.trans (hba.mono hw0.size)) hB (heap_alloc_new w _) hn (hr.below hba) hgr hcr
 refine qeI hgd s x ho hs hx hru (h v' w' h1 ((hba.mono hBw).trans ⟨h2.os,h2.tape,h2.output,h2.size,fun i hi=>h2.block i (qaj hi (qai hBw hba.size)) fun e=>?_⟩) fun y p hp=>h3 y p (hp.below hba))
 have:=hO i e.symm
 omega
theorem qgB (ao:Option Addr) (b off R c C:Nat) (t:Tbl) (w:World) (hl:t.length=R) (hR:R≤1000) (hC0:0<C) (hC:C≤1000) (hA:∀k,k<R→(t.getD k []).length=C∧FAll (t.getD k [])) (hT:TCells w ao b off t) :
  Calls Tryz.prog 53 #[.slice ao R c] w fun e w'=>∃v,e=.returned v∧QRows w' w.heap.size v R C (tval t)∧Below w.heap.size w w':=by
 have HF:=qH (qA hT (qA hl hA))
 clear hT hl hA
 go_enter Tryz.func53,Tryz.ntmps53
 go_wp2_with fail
 go_loopw [3,4] (fun x3 x4 W=>∃k:Nat,x4=.int .i64 k∧k≤R∧Kn (fun W=>Below w.heap.size w W∧QRows W w.heap.size x3 k C (tval t)) W) (fun _ x4 _=>R-(intOf x4).toNat)
 case atStart=>exact⟨0,rfl,qam _,.of ⟨Below.refl _ _,QRows.nil _ _ _ _⟩⟩
 case round =>
  obtain⟨k,rfl,hk,K1⟩:=hrel
  by_cases hkn:k<R
  ·have hki:(k:Int)<R:=by omega
   have har:=HF.out.1.addr (by have:=HF.out.2.1;omega)
   subst har
   have hlk:=HF.out.2.1
   obtain⟨ra,rb,ro,rc,d0,d1⟩:=(HF.out.1.below K1.out.1).row k (by omega)
   obtain⟨e1,e2⟩:=HF.out.2.2 k hkn
   rw [e1] at d0
   have HV:=qH (qdx ra rb ro C rc (t.getD k []) wr e1 hC e2 d1)
   clear e1 e2 d1 hlk
   go_wp2_with fail
   refine HV.out.mono ?_
   rintro e w2 ⟨v,rfl,hv,hb⟩
   obtain⟨gr,cr,rfl,hg1,hg2,hrow⟩:=hv.row hC0
   have K2:=qH (qA hb (qA hrow (qA hg1 hg2)))
   clear hb hv hrow hg1 hg2
   go_wp2_with (first | (at_builtin;refine qjf rfl _ _ rfl K1.out.2 K2.out.1 K1.out.1.size rfl rfl rfl (by omega) K2.out.2.1 K2.out.2.2.1 K2.out.2.2.2 ?_;intro v' w' h1 h2 _;have K3:=qH (qA h1 h2);clear h1 h2) | fail)
   go_roundw
   case rel=>exact⟨k+1,by go_num,hkn,.of ⟨K1.out.1.trans ((K2.out.1.mono K1.out.1.size).trans K3.out.2),K3.out.1⟩⟩
   case measure=>simp [intOf];omega
  ·obtain rfl:k=R:=by omega
   go_wp2_with fail
   go_ret
   exact⟨_,rfl,K1.out.2,K1.out.1⟩
instance stays_rws {B:Nat} {e:TypeId} {size:Nat} {v:Value} {n:Nat} {xs:List Value}:Stays fun W=>Rws W B e size v n xs:=⟨fun h hb=>h.below hb⟩
theorem QRow.cells {W:World} {g C:Nat} {f:Nat→Rat} (h:QRow W g C f) (j:Nat) (hj:j<C):∃u:QV,qbK W (qagg u) (f j)∧W.cell? ⟨g,j*4,none⟩=some (.bool u.1)∧W.cell? ⟨g,j*4+1,none⟩=some (.slice u.2.1.1 u.2.1.2.1 u.2.1.2.2)∧W.cell? ⟨g,j*4+2,none⟩=some (.bool false)∧W.cell? ⟨g,j*4+3,none⟩=some (.slice u.2.2.1 u.2.2.2.1 u.2.2.2.2):=by
 obtain⟨cur,q,h1,_,h3⟩:=h
 obtain⟨h4,h5⟩:=h3 j hj
 exact⟨q j,h5,(cell_of_row _ _ _ _ _ _ h1).trans (h4 0 (by decide)),(cell_of_row _ _ _ _ _ _ h1).trans (h4 1 (by decide)),(cell_of_row _ _ _ _ _ _ h1).trans (h4 2 (by decide)),(cell_of_row _ _ _ _ _ _ h1).trans (h4 3 (by decide))⟩
def qh0 (n:Nat) (x:Nat→Rat) (e:Ending) (w':World):Prop :=
 (qbZ n x∧∃ao g c,e=.returned (.tuple #[.slice ao n c,.int .i64 0])∧FCells w' ao g 0 (told n x)) ∨
 (¬qbZ n x∧e=.returned (.tuple #[.slice none 0 0,.int .i64 6]))
theorem qj0 (g n c:Nat) (f:Nat→Rat) (K:Nat) (hK0:0<K) (hK:K≤17592186000000) (w:World) (hn:n≤1000) (hr:QRow w g n f) (hf:∀i,i<n→RFit (f i) K) :
  Calls Tryz.prog 60 #[.slice (some ⟨g,0,none⟩) n c] w fun e w'=>qh0 n f e w'∧Below w.heap.size w w':=by
 have HR:=qH (qA hr hf)
 clear hr hf
 go_enter Tryz.func60,Tryz.ntmps60
 go_wp2_with fail
 go_loopw [4,5,6,7] (fun x4 x5 x6 x7 W=>∃k:Nat,x5=.int .i64 k∧k≤n∧Hid (∀i,i<k→Short (f i))∧Kn (fun W=>Below w.heap.size w W∧Rws W w.heap.size 46 2 x4 k (fflat (told k f))) W) (fun _ x5 _ _ _=>n-(intOf x5).toNat)
 case atStart=>exact⟨0,rfl,qam _,qH (fun i hi=>absurd hi (by omega)),.of ⟨Below.refl _ _,Rws.nil _ _ _ _⟩⟩
 case round =>
  obtain⟨k,rfl,hk,HS,K1⟩:=hrel
  by_cases hkn:k<n
  ·have hki:(k:Int)<n:=by omega
   obtain⟨u,hu,d0,d1,d2,d3⟩:=(HR.out.1.below K1.out.1).cells k hkn
   have HO:=qH (qgl (f k) K hK0 hK (qagg u) wr hu (HR.out.2 k hkn).1 (HR.out.2 k hkn).2)
   clear hu
   go_wp2_with fail
   refine HO.out.mono ?_
   intro e w2 h2
   obtain⟨x1,x2,cc,rfl,hx,hb⟩:=qcv h2
   have K2:=K1.below hb
   have HX:=qH hx
   clear hb h2 d0 d1 d2 d3
   rcases HX.out with ⟨hs,ht,rfl⟩ | ⟨hs,ht,rfl⟩
   ·have K4:=K2.on (q:=fun W=>W.heap[w2.heap.size]? = some (.cells #[.string x1,.string x2] 46 (0,0))) (qbI (Below.refl _ w2) qN) (heap_alloc_new w2 (.cells #[.string x1,.string x2] 46))
    have Hsz:=qH (show w2.heap.size+1=(w2.alloc (.cells #[.string x1,.string x2] 46)).heap.size by simp only [qab])
    clear hs ht
    go_wp2_with (first | ((with_reducible refine qb1 rfl 46 _ _ rfl #[.string ⟨#[]⟩,.string ⟨#[]⟩] #[.string x1,.string x2] ?_ ?_ 2 ?_ ?_ ?_ ?_ ?_);(next=>rfl);(next=>rfl);(next=>kernel_rfl);(next=>rfl);(next=>rfl);(next=>rfl)) | ((with_reducible refine qbJ rfl 46 _ rfl (w2.heap.size) ?_ 46 #[.string x1,.string x2] _ K4.out.2 Tryz.underlying46 ?_ 2 ?_ ?_ ?_);(next=>rfl);(next=>rfl);(next=>kernel_rfl);(next=>rfl)) | (at_builtin;refine qdi rfl _ _ rfl K4.out.1.1 rfl K4.out.1.2 rfl rfl Hsz.out (by omega) ?_;intro v' w' ho' hb') | fail)
    go_roundw
    case rel =>
     have hx:(x1,x2)=ftxt (f k):=by rcases HX.out with h | h;exact h.2.1;exact absurd h.2.2 (by decide)
     have hs:Short (f k):=by rcases HX.out with h | h;exact h.1;exact absurd h.2.2 (by decide)
     exact⟨k+1,by go_num,hkn,qH (fun i hi=>by
      rcases (show i<k∨i=k by omega) with h | h
      ·exact HS.out i h
      ·rw [h];exact hs),.of ⟨hb'.out,by rw [qew,←hx];exact ho'.out⟩⟩
    case measure=>simp [intOf];omega
   ·have HN:=qH hs
    clear hs ht
    go_wp2_with (first | ((with_reducible refine qb1 rfl 46 _ _ rfl #[.string ⟨#[]⟩,.string ⟨#[]⟩] #[.string x1,.string x2] ?_ ?_ 2 ?_ ?_ ?_ ?_ ?_);(next=>rfl);(next=>rfl);(next=>kernel_rfl);(next=>rfl);(next=>rfl);(next=>rfl)) | fail)
    go_ret2
    exact⟨qaq ⟨fun h=>HN.out (h k hkn),rfl⟩,qbI K2.out.1 qN⟩
  ·obtain rfl:k=n:=by omega
   go_wp2_with fail
   go_ret2
   obtain⟨ao,g',cap,rfl,h1,_⟩:=qc5 K1.out.2 (qbQ _ _)
   exact⟨qau ⟨HS.out,ao,g',cap,rfl,h1⟩,K1.out.1⟩
end Go.Proofs.YtfminfgabiipjaaGreatDoor.p4
namespace Go.Proofs.YtfminfgabiipjaaGreatDoor
open Go.RowKit
theorem run_frac {w:World} {B:Nat} {v:Value} {n:Nat} {l:List FT} {x1 x2:ByteArray} {g:Nat} (ty:TypeId) (hown:Rws w B 46 2 v n (fflat l)) (hB:B≤w.heap.size) (hg:w.heap[g]? = some (.cells #[.string x1,.string x2] 46 (0,0))) (hn:n<1000000) :
  ∃v' w',(Builtin.append_ #[23,23] ty #[v,.slice (some ⟨g,0,none⟩) 1 1]).run Tryz.prog w=.ok v' w'∧Rws w' B 46 2 v' (n+1) (fflat (l++[(x1,x2)]))∧w.grownBy w' v.ownBlock:=by
 obtain⟨i0,hi,hz0,hz1,hz2⟩:=info_parts infoF
 obtain⟨v',w',hr,h2,h3,_⟩:=qcl (P:=Tryz.prog) w B 23 ty 46 i0 _ 2 32 Tryz.underlying23 hi hz0 hz1 hz2 rfl (by decide) frac_not v n (fflat l) hown ⟨g,0,none⟩ 1 1 (fflat [(x1,x2)]) rfl (fun j z hj=>by
  rw [Addr.add_mid,qa2]
  exact (cell_of_row _ _ j _ _ _ hg).trans ((qaz ..).trans hj)) (qic _) (qlb _) (by decide) (by unfold maxLen;omega) (by omega) hB
 exact⟨v',w',hr,by rw [qdR];exact h2,h3⟩
theorem qjQ {w:World} {B:Nat} {v:Value} {n:Nat} {vs:List Value} {ra:Option Addr} {m rc:Nat} {g:Nat} (ty:TypeId) (hown:Rws w B 23 1 v n vs) (hB:B≤w.heap.size) (hg:w.heap[g]? = some (.cells #[.slice ra m rc] 23 (0,0))) (hn:n<1000000) :
  ∃v' w',(Builtin.append_ #[22,22] ty #[v,.slice (some ⟨g,0,none⟩) 1 1]).run Tryz.prog w=.ok v' w'∧Rws w' B 23 1 v' (n+1) (vs++[.slice ra m rc])∧w.grownBy w' v.ownBlock:=by
 obtain⟨i0,hi,hz0,hz1,hz2⟩:=info_parts infoFs
 obtain⟨v',w',hr,h2,h3,_⟩:=qcl (P:=Tryz.prog) w B 22 ty 23 i0 _ 1 24 Tryz.underlying22 hi hz0 hz1 hz2 rfl (by decide) slc_not v n vs hown ⟨g,0,none⟩ 1 1 [.slice ra m rc] rfl (fun j z hj=>by
  rw [Addr.add_mid,qa2]
  exact (cell_of_row _ _ j _ _ _ hg).trans ((qaz ..).trans hj)) (fun u hu=>by rw [qap.1 hu];rfl) (fun u hu=>by rw [qap.1 hu];exact qcF _ _ _) (by decide) (by unfold maxLen;omega) (by omega) hB
 exact⟨v',w',hr,h2,h3⟩
theorem qeT (ao:Option Addr) (b off n c m:Nat) (l:List FT) (w:World) (hl:l.length=n) (hnc:n≤c) (hm:m≤1000) (hF:FCells w ao b off l) :
  Calls Tryz.prog 49 #[.slice ao n c,.int .i64 (m:Int)] w fun e w'=>∃v,e=.returned v∧Rws w' w.heap.size 46 2 v (min n m) (fflat (cutL m l))∧Below w.heap.size w w':=by
 obtain⟨M,hM⟩:∃M,min n m=M:=⟨_,rfl⟩
 have hMi:min (n:Int) (m:Int)=(M:Int):=by omega
 have hMc:(M:Int)≤(c:Int):=by omega
 have hM0:(0:Int)≤(M:Int):=by omega
 have hM1:M≤1000:=by omega
 have hcl:fflat (cutL m l)=fflat (cutL M l):=by rw [←hM,←hl,cutL_min]
 rw [hM,hcl]
 have HC:=qH (qA hF (show M≤l.length by omega))
 clear hF hl hM hnc hm hcl
 go_enter Tryz.func49,Tryz.ntmps49
 go_wp2_with fail
 go_loopw [5,7,15] (fun x5 _ x15 W=>∃k:Nat,x15=.int .i64 k∧k≤M∧Kn (fun W=>Below w.heap.size w W∧Rws W w.heap.size 46 2 x5 k (fflat (cutL k l))) W) (fun _ _ x15 _=>M-(intOf x15).toNat)
 case atStart=>exact⟨0,rfl,qam _,.of ⟨Below.refl _ _,Rws.nil _ _ _ _⟩⟩
 case round =>
  obtain⟨k,rfl,hk,K1⟩:=hrel
  by_cases hkn:k<M
  ·have hki:(k:Int)<M:=by omega
   have har:=HC.out.1.addr (by have:=HC.out.2;omega)
   subst har
   obtain⟨d0,d1⟩:=(HC.out.1.below K1.out.1).cell k (by have:=HC.out.2;omega)
   have hnx:=qkW (l:=l) (k:=k) (by have:=HC.out.2;omega)
   obtain⟨N,hN⟩:∃N,(l.getD k fd0).1=N:=⟨_,rfl⟩
   obtain⟨D,hD⟩:∃D,(l.getD k fd0).2=D:=⟨_,rfl⟩
   rw [show cut6 (l.getD k fd0)=(cut1 N,cut1 D) by unfold cut6;rw [hN,hD]] at hnx
   rw [hN] at d0
   rw [hD] at d1
   have HX:=qH hnx
   clear hN hD hnx
   go_wp2_with (first | ((with_reducible refine qb1 rfl 46 _ _ rfl #[.string ⟨#[]⟩,.string ⟨#[]⟩] #[.string N,.string D] ?_ ?_ 2 ?_ ?_ ?_ ?_ ?_);(next=>rfl);(next=>rfl);(next=>kernel_rfl);(next=>rfl);(next=>rfl);(next=>rfl)) | fail)
   obtain⟨W1,hW1⟩:∃W1,W1=wr.alloc (.cells #[.string N,.string D] 46):=⟨_,rfl⟩
   obtain⟨g7,hg7⟩:∃g,g=wr.heap.size:=⟨_,rfl⟩
   have K2:Kn (fun W=>(Below w.heap.size w W∧Rws W w.heap.size 46 2 u5 k (fflat (cutL k l)))∧W.heap[g7]? = some (.cells #[.string N,.string D] 46 (0,0))) W1:=by
    rw [hW1,hg7]
    exact K1.on (q:=fun W=>W.heap[wr.heap.size]? = some (.cells #[.string N,.string D] 46 (0,0))) (qbI (Below.refl _ wr) qN) (heap_alloc_new wr _)
   have hne:some g7≠u5.ownBlock:=fun e=>by
    have:=(K1.out.2.lt _ e.symm).2
    omega
   obtain⟨n1,hn1⟩:∃n1:Nat,min N.size 6=n1:=⟨_,rfl⟩
   obtain⟨n2,hn2⟩:∃n2:Nat,min D.size 6=n2:=⟨_,rfl⟩
   have e1:min (N.size:Int) 6=(n1:Int):=by omega
   have e2:min (D.size:Int) 6=(n2:Int):=by omega
   have f1:(0:Int)≤n1:=by omega
   have f2:(0:Int)≤n2:=by omega
   have f3:(n1:Int)≤N.size:=by omega
   have f4:(n2:Int)≤D.size:=by omega
   have q0:∀W,W1.grownBy W u5.ownBlock→W.cell? ⟨g7,0,none⟩=some (.string N):=fun W h=>h.cell (cell_of_row _ _ 0 _ _ _ K2.out.2) hne
   have q1:∀W,W1.grownBy W u5.ownBlock→W.cell? ⟨g7,1,none⟩=some (.string D):=fun W h=>h.cell (cell_of_row _ _ 1 _ _ _ K2.out.2) hne
   have HX:Hid (cutL (k+1) l=cutL k l++[(N.extract 0 n1,D.extract 0 n2)]):=qH (by rw [HX.out];unfold cut1;rw [hn1,hn2])
   rw [←hg7,←hW1]
   clear hW1 hg7 hne hn1 hn2 K1 d0 d1
   refine wp_region_held_drew (S:=fun W=>W1.grownBy W u5.ownBlock) (by kernel_rfl) (qbR (qb3 _ _) qB.drew) (fun hS0=>?_)
   refine hT 0 (h:=hT 1 (h:=hT 2 (h:=hT 3 (h:=hT 4 (h:=hT 5 (h:=hT 6 (h:=hT 7 (h:=hT 8 (h:=hT 9 (h:=hT 10 (h:=hT 11 (h:=hT 12 (h:=hT 13 (h:=hT 14 (h:=hT 15 (h:=?_))))))))))))))))
   obtain⟨V,hV⟩:∃V,V=W1.drew:=⟨_,rfl⟩
   have hbV:Below W1.heap.size W1 V:=hV▸qB.drew
   rw [←hV] at hS0 ⊢
   clear hV
   have K3:=K2.below hbV
   obtain⟨g8,hg8⟩:∃g,g=V.heap.size:=⟨_,rfl⟩
   obtain⟨W2,hW2⟩:∃W2,W2=V.alloc (.cells #[.string (N.extract 0 n1),.string (D.extract 0 n2)] 46):=⟨_,rfl⟩
   have hb2:Below V.heap.size V W2:=hW2▸qbI qB qN
   have hr2:W2.heap[g8]? = some (.cells #[.string (N.extract 0 n1),.string (D.extract 0 n2)] 46 (0,0)):=by rw [hW2,hg8];exact heap_alloc_new V _
   have K4:=K3.below hb2
   refine hE 16 (w':=W2) (v:=.slice (some ⟨g8,0,none⟩) 1 1) (he:=by rw [hW2,hg8];go_simp) (h:=⟨qbR hS0 hb2,hN (h:=?_)⟩)
   obtain⟨v',w',hr,h1,h2⟩:=run_frac 23 K4.out.1.2 K4.out.1.1.size hr2 (by omega)
   have hS3:=qbL (qbR hS0 hb2) h2
   refine hE 17 (he:=by exact qfN rfl rfl rfl rfl hr) (h:=⟨hS3,hN (h:=?_)⟩)
   refine hT 18 (h:=?_)
   refine wpAnyH_done (by kernel_rfl) ?_ _
   have K5:Kn (fun W=>Below w.heap.size w W∧Rws W w.heap.size 46 2 v' (k+1) (fflat (cutL (k+1) l))) w':=.of ⟨K4.out.1.2.old h2 K4.out.1.1 qN K4.out.1.1.size,by rw [HX.out];exact h1⟩
   clear hr h1 h2 hS3 hr2 hb2 hW2 hg8 hbV hS0 q0 q1 K2 K3 K4
   go_wp2_with fail
   go_roundw
   case rel=>exact⟨k+1,by go_num,hkn,K5⟩
   case measure=>simp [intOf];omega
  ·obtain rfl:k=M:=by omega
   go_wp2_with fail
   go_ret
   exact⟨_,rfl,K1.out.2,K1.out.1⟩
def qeO (W:World) (k:Nat) (t:Tbl) (vs:List Value):Prop:=vs.length=k∧∀j,j<k→∃B',Rws W B' 46 2 (vs.getD j undef) (cutL 11 (t.getD j [])).length (fflat (cutL 11 (t.getD j [])))
theorem qeO.map {W W':World} {k:Nat} {t:Tbl} {vs:List Value} (h:qeO W k t vs) (hk:∀(B':Nat) (vi:Value) (ni:Nat) (xi:List Value),Rws W B' 46 2 vi ni xi→Rws W' B' 46 2 vi ni xi):qeO W' k t vs :=
 ⟨h.1,fun j hj=>by
  obtain⟨B',hB'⟩:=h.2 j hj
  exact⟨B',hk _ _ _ _ hB'⟩⟩
theorem qeO.next {W:World} {k B:Nat} {t:Tbl} {vs:List Value} {u:Value} (h:qeO W k t vs) (hu:Rws W B 46 2 u (cutL 11 (t.getD k [])).length (fflat (cutL 11 (t.getD k [])))):qeO W (k+1) t (vs++[u]):=by
 refine⟨by rw [qag,h.1];rfl,fun j hj=>?_⟩
 by_cases e:j=k
 ·subst e
  refine⟨B,?_⟩
  rw [qaa,qas (by rw [h.1];exact qae _),h.1,qaH]
  exact hu
 ·obtain⟨B',hB'⟩:=h.2 j (by omega)
  refine⟨B',?_⟩
  rw [qaa,qaB (by rw [h.1];omega),←qaa]
  exact hB'
structure RawOwn (W:World) (z0 z1 z2 z3:Value) (t:Tbl) (l u x:List FT):Prop where
 tab:∃(B:Nat) (vs:List Value),Rws W B 23 1 z0 t.length vs∧∀j,j<t.length→∃B',Rws W B' 46 2 (vs.getD j undef) (t.getD j []).length (fflat (t.getD j []))
 l1:∃B,Rws W B 46 2 z1 l.length (fflat l)
 l2:∃B,Rws W B 46 2 z2 u.length (fflat u)
 l3:∃B,Rws W B 46 2 z3 x.length (fflat x)
theorem RawOwn.map {W W':World} {z0 z1 z2 z3:Value} {t:Tbl} {l u x:List FT} (h:RawOwn W z0 z1 z2 z3 t l u x) (hk:∀(B:Nat) (e:TypeId) (s:Nat) (v:Value) (n:Nat) (xs:List Value),e≠25→Rws W B e s v n xs→Rws W' B e s v n xs):RawOwn W' z0 z1 z2 z3 t l u x:=by
 obtain⟨⟨B,vs,h1,h2⟩,⟨B1,h3⟩,⟨B2,h4⟩,⟨B3,h5⟩⟩:=h
 exact⟨⟨B,vs,hk _ _ _ _ _ _ (by decide) h1,fun j hj=>by
  obtain⟨B',h⟩:=h2 j hj
  exact⟨B',hk _ _ _ _ _ _ (by decide) h⟩⟩,⟨B1,hk _ _ _ _ _ _ (by decide) h3⟩,⟨B2,hk _ _ _ _ _ _ (by decide) h4⟩,⟨B3,hk _ _ _ _ _ _ (by decide) h5⟩⟩
instance stays_rawown {z0 z1 z2 z3:Value} {t:Tbl} {l u x:List FT}:Stays fun W=>RawOwn W z0 z1 z2 z3 t l u x:=⟨fun h hb=>h.map fun _ _ _ _ _ _ _ h=>h.below hb⟩
theorem RawOwn.parts {W:World} {z0 z1 z2 z3:Value} {t:Tbl} {l u x:List FT} (h:RawOwn W z0 z1 z2 z3 t l u x):∃(a:Option Addr) (g c:Nat) (a1:Option Addr) (g1 c1:Nat) (a2:Option Addr) (g2 c2:Nat) (a3:Option Addr) (g3 c3:Nat),
  (z0=.slice a t.length c∧z1=.slice a1 l.length c1∧z2=.slice a2 u.length c2∧z3=.slice a3 x.length c3)∧(t.length≤c∧l.length≤c1∧u.length≤c2∧x.length≤c3)∧TabAt W a g 0 t∧FCells W a1 g1 0 l∧FCells W a2 g2 0 u∧FCells W a3 g3 0 x:=by
 obtain⟨⟨B,vs,h1,h2⟩,⟨B1,h3⟩,⟨B2,h4⟩,⟨B3,h5⟩⟩:=h
 obtain⟨a,g,c,e,hT,hc⟩:=qhV h1 rfl (fun j hj=>by
  obtain⟨B',hB'⟩:=h2 j hj
  obtain⟨qa,ga,pa,ea,hFa,ma⟩:=qc5 hB' rfl
  exact⟨qa,ga,0,pa,ea,ma,hFa⟩)
 obtain⟨a1,g1,c1,e1,hF1,m1⟩:=qc5 h3 rfl
 obtain⟨a2,g2,c2,e2,hF2,m2⟩:=qc5 h4 rfl
 obtain⟨a3,g3,c3,e3,hF3,m3⟩:=qc5 h5 rfl
 exact⟨a,g,c,a1,g1,c1,a2,g2,c2,a3,g3,c3,⟨e,e1,e2,e3⟩,⟨hc,m1,m2,m3⟩,hT,hF1,hF2,hF3⟩
structure OwnSt (w:World) (box:Array Value) (t:Tbl) (k:Nat) (y:Value) (vs:List Value) (W:World):Prop where
 old:Below w.heap.size w W
 box:W.heap[w.heap.size]? = some (.cells box 25 (0,0))
 res:W.heap[w.heap.size+1]? = some (.cells #[.slice none 0 0,.slice none 0 0,.slice none 0 0,.slice none 0 0] 25 (0,0))
 out:W.heap[w.heap.size+1+1]? = some (.cells #[y,.slice none 0 0,.slice none 0 0,.slice none 0 0] 25 (0,0))
 rws:Rws W (w.heap.size+1+1+1) 23 1 y k vs
 rows:qeO W k t vs
instance stays_own {w:World} {box:Array Value} {t:Tbl} {k:Nat} {y:Value} {vs:List Value}:Stays (OwnSt w box t k y vs) :=
 ⟨fun h hb=>⟨h.old.trans (hb.mono h.old.size),zkeep hb _ _ h.box,zkeep hb _ _ h.res,zkeep hb _ _ h.out,h.rws.below hb,h.rows.map fun _ _ _ _ h=>h.below hb⟩⟩
theorem Rws.neT {W:World} {B s n:Nat} {e:TypeId} {v:Value} {xs:List Value} {g:Nat} {cs:Array Value} {t:TypeId} {fz:Nat×Nat} (h:Rws W B e s v n xs) (hg:W.heap[g]? = some (.cells cs t fz)) (he:e≠t):v.ownBlock=none∨v.ownBlock≠some g:=by
 rcases h.2 with ⟨rfl,_⟩ | ⟨g',cap,cur,rfl,_,h3,_⟩
 ·exact qau rfl
 ·refine qaq fun e1=>?_
  have:g'=g:=qah e1
  subst this
  have:=h3.symm.trans hg
  simp at this
  exact he this.2.1
theorem OwnSt.put {w w3 w4:World} {box:Array Value} {t:Tbl} {k B4 m rc:Nat} {y v':Value} {vs:List Value} {ra:Option Addr} (h:OwnSt w box t k y vs w3) (h1:Rws w4 (w.heap.size+1+1+1) 23 1 v' (k+1) (vs++[.slice ra m rc])) (h2:w3.grownBy w4 y.ownBlock)
  (hr:Rws w3 B4 46 2 (.slice ra m rc) (cutL 11 (t.getD k [])).length (fflat (cutL 11 (t.getD k [])))) :
  (w4.cell? ⟨w.heap.size+1+1,0,none⟩=some y∧w4.frozen? ⟨w.heap.size+1+1,0,none⟩=false)∧OwnSt w box t (k+1) v' (vs++[.slice ra m rc]) (w4.setCell ⟨w.heap.size+1+1,0,none⟩ v'):=by
 have hl3:=(qG h.out).1
 have own:∀g,g<w.heap.size+1+1+1→w4.heap[g]? = w3.heap[g]?:=fun g hg=>h2.block g (by omega) (fun e=>by have:=(h.rws.lt g e.symm).1;omega)
 have r0:=(own _ (by omega)).trans h.box
 have r1:=(own _ (by omega)).trans h.res
 have r2:=(own _ (by omega)).trans h.out
 have k0:w4.grownBy (w4.setCell ⟨w.heap.size+1+1,0,none⟩ v') (some (w.heap.size+1+1)):=least.qbO _ _ _ _
 have kk:∀(B':Nat) (vi:Value) (ni:Nat) (xi:List Value),Rws w3 B' 46 2 vi ni xi→Rws (w4.setCell ⟨w.heap.size+1+1,0,none⟩ v') B' 46 2 vi ni xi:=fun B' vi ni xi hi=>by
  have h4:=hi.kept h2 (hi.ne h.rws (by decide))
  exact h4.kept k0 (h4.neT r2 (by decide))
 refine⟨⟨cell_of_row _ _ 0 _ _ _ r2,frozen_of_row _ _ _ _ _ r2⟩,⟨(h.rws.old h2 h.old (by omega) (by omega)).setCell (by show w.heap.size≤w.heap.size+1+1;omega) _,(heap_setCell_other _ _ _ _ (by show w.heap.size≠w.heap.size+1+1;omega)).trans r0,(heap_setCell_other _ _ _ _ (by show w.heap.size+1≠w.heap.size+1+1;omega)).trans r1,(heap_setCell_same _ _ 0 _ _ v' r2).trans (by rfl),h1.kept k0 (h1.neT r2 (by decide)),?_⟩⟩
 exact (h.rows.map kk).next (kk _ _ _ _ hr)
theorem qlL (v:Value) (t:Tbl) (l u x:List FT) (w:World) (hv:RawAt w v t l u x) :
  Calls Tryz.prog 15 #[v] w fun e w'=>∃z0 z1 z2 z3,e=.returned (.agg #[z0,z1,z2,z3])∧RawOwn w' z0 z1 z2 z3 (cutT t) (cutL 42 l) (cutL 42 u) (cutL 11 x)∧Below w.heap.size w w':=by
 obtain⟨a,b,off,c,a1,b1,o1,c1,a2,b2,o2,c2,a3,b3,o3,c3,rfl,⟨hc0,hc1,hc2,hc3⟩,hT,h1,h2,h3⟩:=hv
 obtain⟨M,hM⟩:∃M,min t.length 42=M:=⟨_,rfl⟩
 have hMi:min (t.length:Int) 42=(M:Int):=by omega
 have hMc:(M:Int)≤(c:Int):=by omega
 have hM0:(0:Int)≤(M:Int):=by omega
 have hM1:M≤42:=by omega
 have hMt:M≤t.length:=by omega
 obtain⟨n,hn⟩:∃n,t.length=n:=⟨_,rfl⟩
 rw [hn] at hMi hMt ⊢
 have HC1:=qH (fun (W:World) (h:Below w.heap.size w W)=>qeT a1 b1 o1 _ c1 42 l W rfl hc1 (by decide) (h1.below h))
 have HC2:=qH (fun (W:World) (h:Below w.heap.size w W)=>qeT a2 b2 o2 _ c2 42 u W rfl hc2 (by decide) (h2.below h))
 have HC3:=qH (fun (W:World) (h:Below w.heap.size w W)=>qeT a3 b3 o3 _ c3 11 x W rfl hc3 (by decide) (h3.below h))
 have HX:=qH (qA hT (qA hn (show min n 42=M by omega)))
 obtain⟨n1,hn1⟩:∃n,l.length=n:=⟨_,rfl⟩
 obtain⟨n2,hn2⟩:∃n,u.length=n:=⟨_,rfl⟩
 obtain⟨n3,hn3⟩:∃n,x.length=n:=⟨_,rfl⟩
 rw [hn1] at HC1
 rw [hn2] at HC2
 rw [hn3] at HC3
 rw [hn1,hn2,hn3]
 have HN:=qH (qA hn1 (qA hn2 hn3))
 clear hT h1 h2 h3 hn hM hn1 hn2 hn3 hc0 hc1 hc2 hc3
 obtain⟨W1,hW1,K1⟩:=p4.kn3 w #[.slice a n c,.slice a1 n1 c1,.slice a2 n2 c2,.slice a3 n3 c3] 25 #[.slice none 0 0,.slice none 0 0,.slice none 0 0,.slice none 0 0] 25 #[.slice none 0 0,.slice none 0 0,.slice none 0 0,.slice none 0 0] 25
 go_enter Tryz.func15,Tryz.ntmps15
 go_upto_region 2 with fail
 rw [←hW1]
 clear hW1
 have c0:=cell_of_row W1 _ 0 _ _ _ K1.out.2.1
 go_wp2_with fail
 clear c0
 go_loopw [5,14] (fun _ x14 W=>∃(k:Nat) (y:Value) (vs:List Value),x14=.int .i64 k∧k≤M∧Kn (OwnSt w #[.slice a n c,.slice a1 n1 c1,.slice a2 n2 c2,.slice a3 n3 c3] t k y vs) W) (fun _ x14 _=>M-(intOf x14).toNat)
 case atStart=>exact⟨0,.slice none 0 0,[],rfl,qam _,.of ⟨K1.out.1,K1.out.2.1,K1.out.2.2.1,K1.out.2.2.2,Rws.nil _ _ _ _,rfl,fun j hj=>absurd hj (by omega)⟩⟩
 case round =>
  obtain⟨k,y,vs,rfl,hk,K2⟩:=hrel
  by_cases hkn:k<M
  ·have hki:(k:Int)<M:=by omega
   have har:=HX.out.1.tc.addr (by have:=HX.out.2.1;omega)
   subst har
   obtain⟨ra,rb,ro,rc,d0,hrc,hF⟩:=(HX.out.1.below K2.out.old).row (k:=k) (by have:=HX.out.2.1;omega)
   obtain⟨m,hm⟩:∃m,(t.getD k []).length=m:=⟨_,rfl⟩
   have HC:=qH (fun (W:World) (h:Below wr.heap.size wr W)=>qeT ra rb ro m rc 11 (t.getD k []) W hm (by omega) (by decide) (hF.below h))
   have hml:min m 11=(cutL 11 (t.getD k [])).length:=by rw [qdp];omega
   obtain⟨L,hL⟩:∃L,cutL 11 (t.getD k [])=L:=⟨_,rfl⟩
   rw [hm] at d0
   rw [hml,hL] at HC
   have HL:=qH hL
   clear hm hml hrc hF hL
   go_wp2_with fail
   refine wp_region_held_drew (S:=fun _=>True) (by kernel_rfl) trivial (fun hS0=>?_)
   refine hT 0 (h:=hT 2 (h:=?_))
   refine gr [(1,19),(3,21),(4,22)] [(4,[3])] [0,2] [1,3,4] [] 5 8 (fl2 [(1,fun z _=>z=y),(3,fun z W=>∃B',Rws W B' 46 2 z L.length (fflat L)),(4,fun z W=>∃(g:Nat) (ra':Option Addr) (rc':Nat),W.heap[g]? = some (.cells #[.slice ra' L.length rc'] 23 (0,0))∧(∃B',Rws W B' 46 2 (.slice ra' L.length rc') L.length (fflat L))∧z=.slice (some ⟨g,0,none⟩) 1 1)]) _ 3
    (hS:=fun _ _=>trivial) (hstep:=⟨⟨_,rfl,fun v w3 hb hF K hK=>?_⟩,⟨_,rfl,fun v w3 hb hF K hK=>?_⟩,⟨_,rfl,fun v w3 hb hF K hK=>?_⟩,trivial⟩) (hend:=fun v w3 hb hF _ fu=>?_)
   ·have h0:=cell_of_row _ _ 0 _ _ _ (K2.below (qbU hb)).out.out
    exact gV hK rfl
   ·exact gC hK (HC.out w3 (qbU hb)) (h:=fun e w4 ⟨u,e1,h1,h2⟩=>⟨u,e1,⟨_,h1⟩,h2⟩)
   ·obtain⟨B3,i3⟩:∃B',Rws w3 B' 46 2 (v 3) L.length (fflat L):=hF.1
    obtain⟨ra',rc',e3⟩:=i3.shape
    rw [e3] at i3
    exact gW hK (h:=⟨⟨w3.heap.size,ra',rc',qM _ _ _ rfl,⟨B3,i3.below (qbI qB qN)⟩,rfl⟩,qbI qB qN⟩)
   have e1:v 1=_:=hF 1 (by decide) (by decide)
   obtain⟨g4,ra',rc',hg4,⟨B4,hr4⟩,e4⟩:∃(g:Nat) (ra':Option Addr) (rc':Nat),_:=hF 4 (by decide) (by decide)
   have K3:=K2.below (qbU hb)
   obtain⟨v',w4,hr,h41,h42⟩:=qjQ 22 K3.out.rws (by have:=(qG K3.out.out).1;omega) hg4 (by omega)
   rw [e1,e4]
   refine hE 5 (he:=by exact qfN rfl rfl rfl rfl hr) (h:=⟨trivial,hN (h:=?_)⟩)
   obtain⟨a2,c2',rfl⟩:=h41.shape
   obtain⟨hce,K4⟩:=K3.out.put h41 h42 (by rw [HL.out];exact hr4)
   obtain⟨hce,hfr⟩:=hce
   have K5:=Kn.of K4
   clear K4 K3 hr4 h41 h42 hr e1 e4 hg4 hF hb K2
   refine hT 6 (hS:=trivial) (h:=?_)
   refine hSg 7 (h:=⟨trivial,?_⟩)
   refine wpAnyH_done (by kernel_rfl) ?_ _
   obtain⟨W5,hW5⟩:∃W5,W5=w4.setCell ⟨w.heap.size+1+1,0,none⟩ (.slice a2 (k+1) c2'):=⟨_,rfl⟩
   rw [←hW5] at K5 ⊢
   clear hW5 hce hfr HC d0
   go_wp2_with fail
   go_roundw
   case rel=>exact⟨k+1,_,_,by go_num,hkn,K5⟩
   case measure=>simp [intOf];omega
  ·obtain rfl:k=M:=by omega
   have c1:=rowG (g0:=w.heap.size+1+1) K2.out.box 1
   have c2:=rowG (g0:=w.heap.size+1+1) K2.out.box 2
   have c3:=rowG (g0:=w.heap.size+1+1) K2.out.box 3
   go_wp2_with fail
   refine wp_region_held_drew (S:=fun W=>wr.grownBy W (some (w.heap.size+1+1))) (by kernel_rfl) (qbR (qb3 _ _) qB.drew) (fun hS0=>?_)
   refine hT 0 (h:=hT 1 (h:=hT 3 (h:=hT 4 (h:=hT 6 (h:=hT 7 (h:=?_))))))
   refine hC 2 (HC1.out _ K2.out.old.drew) (h:=?_)
   rintro e w1 ⟨x1,rfl,i2,hb⟩
   have K2:=K2.below (qbU hb)
   have hS0:=qbR hS0 hb
   obtain⟨z1,y1,rfl⟩:=i2.shape
   clear hb
   refine⟨_,rfl,hS0,hN (h:=?_)⟩
   refine hT 9 (h:=?_)
   refine hC 5 (HC2.out _ K2.out.old) (h:=?_)
   rintro e w2 ⟨x2,rfl,i5,hb⟩
   have K2:=K2.below hb
   have hS0:=qbR hS0 hb
   replace i2:=i2.below hb
   obtain⟨z2,y2,rfl⟩:=i5.shape
   clear hb
   refine⟨_,rfl,hS0,hN (h:=?_)⟩
   refine hC 8 (HC3.out _ K2.out.old) (h:=?_)
   rintro e w3 ⟨x3,rfl,i8,hb⟩
   have K3:=K2.below hb
   have hS1:=qbR hS0 hb
   replace i2:=i2.below hb
   replace i5:=i5.below hb
   obtain⟨z3,y3,rfl⟩:=i8.shape
   clear hb
   refine⟨_,rfl,hS1,hN (h:=?_)⟩
   obtain⟨ay,cy,rfl⟩:=K3.out.rws.shape
   clear hS0 K2 c1 c2 c3
   obtain⟨N1,hN1⟩:∃N,min n1 42=N:=⟨_,rfl⟩
   obtain⟨N2,hN2⟩:∃N,min n2 42=N:=⟨_,rfl⟩
   obtain⟨N3,hN3⟩:∃N,min n3 11=N:=⟨_,rfl⟩
   rw [hN1] at i2 ⊢
   rw [hN2] at i5 ⊢
   rw [hN3] at i8 ⊢
   have r0:w3.heap[(w.heap.size+1+1)]? = some (.cells #[.slice ay k cy,.slice none 0 0,.slice none 0 0,.slice none 0 0] 25 (0,0)):=K3.out.out
   have b1:=cell_of_row _ _ 1 _ _ _ r0
   have f1:=frozen_of_row _ _ 1 _ _ r0
   have hS2:=qbL hS1 (least.qbO w3 (w.heap.size+1+1) 1 (.slice z1 N1 y1))
   refine hSg 10 (h:=⟨hS2,?_⟩)
   obtain⟨W5,hW5⟩:∃W5,W5=w3.setCell ⟨(w.heap.size+1+1),1,none⟩ (.slice z1 N1 y1):=⟨_,rfl⟩
   have r5:W5.heap[(w.heap.size+1+1)]? = some (.cells #[.slice ay k cy,.slice z1 N1 y1,.slice none 0 0,.slice none 0 0] 25 (0,0)):=hW5▸heap_setCell_same _ _ 1 _ _ _ r0
   rw [←hW5] at hS2 ⊢
   have k5:w3.grownBy W5 (some (w.heap.size+1+1)):=hW5▸least.qbO w3 (w.heap.size+1+1) 1 (.slice z1 N1 y1)
   clear hW5 b1 f1
   have b2:=cell_of_row _ _ 2 _ _ _ r5
   have f2:=frozen_of_row _ _ 2 _ _ r5
   refine hT 11 (h:=?_)
   have hS3:=qbL hS2 (least.qbO W5 (w.heap.size+1+1) 2 (.slice z2 N2 y2))
   refine hSg 12 (h:=⟨hS3,?_⟩)
   obtain⟨W6,hW6⟩:∃W6,W6=W5.setCell ⟨(w.heap.size+1+1),2,none⟩ (.slice z2 N2 y2):=⟨_,rfl⟩
   have r6:W6.heap[(w.heap.size+1+1)]? = some (.cells #[.slice ay k cy,.slice z1 N1 y1,.slice z2 N2 y2,.slice none 0 0] 25 (0,0)):=hW6▸heap_setCell_same _ _ 2 _ _ _ r5
   rw [←hW6] at hS3 ⊢
   have k6:w3.grownBy W6 (some (w.heap.size+1+1)):=qbL k5 (hW6▸least.qbO W5 (w.heap.size+1+1) 2 (.slice z2 N2 y2))
   clear hW6 b2 f2 k5
   have b3:=cell_of_row _ _ 3 _ _ _ r6
   have f3:=frozen_of_row _ _ 3 _ _ r6
   refine hT 13 (h:=?_)
   have hS4:=qbL hS3 (least.qbO W6 (w.heap.size+1+1) 3 (.slice z3 N3 y3))
   refine hSg 14 (h:=⟨hS4,?_⟩)
   obtain⟨W7,hW7⟩:∃W7,W7=W6.setCell ⟨(w.heap.size+1+1),3,none⟩ (.slice z3 N3 y3):=⟨_,rfl⟩
   have r7:W7.heap[(w.heap.size+1+1)]? = some (.cells #[.slice ay k cy,.slice z1 N1 y1,.slice z2 N2 y2,.slice z3 N3 y3] 25 (0,0)):=hW7▸heap_setCell_same _ _ 3 _ _ _ r6
   have k7:w3.grownBy W7 (some (w.heap.size+1+1)):=qbL k6 (hW7▸least.qbO W6 (w.heap.size+1+1) 3 (.slice z3 N3 y3))
   rw [←hW7]
   clear hW7 b3 f3 k6 hS1 hS2 hS3 hS4
   refine wpAnyH_done (by kernel_rfl) ?_ _
   have hl3:=(qG K3.out.out).1
   have r1:W7.heap[w.heap.size+1]? = some (.cells #[.slice none 0 0,.slice none 0 0,.slice none 0 0,.slice none 0 0] 25 (0,0)):=(k7.block _ (by omega) (fun e=>by have:=qah e;omega)).trans K3.out.res
   have hb7:Below w.heap.size w W7:=K3.out.old.trans ⟨k7.os,k7.tape,k7.output,k7.size,fun i hi=>k7.block i (by omega) (fun e=>by have:=qah e;omega)⟩
   have hs7:W7.grownBy (W7.setRow (w.heap.size+1) #[.slice ay k cy,.slice z1 N1 y1,.slice z2 N2 y2,.slice z3 N3 y3]) (some (w.heap.size+1)):=qb9 _ _ _
   have kk:∀(B':Nat) (e:TypeId) (s:Nat) (vi:Value) (ni:Nat) (xi:List Value),e≠25→Rws w3 B' e s vi ni xi→Rws (W7.setRow (w.heap.size+1) #[.slice ay k cy,.slice z1 N1 y1,.slice z2 N2 y2,.slice z3 N3 y3]) B' e s vi ni xi:=fun B' e s vi ni xi he hi=>by
    have h4:=hi.kept k7 (hi.neT r0 he)
    exact h4.kept hs7 (h4.neT r1 he)
   have hlt:(cutT t).length=k:=by rw [qga,HX.out.2.1];exact HX.out.2.2
   have hl1:(cutL 42 l).length=N1:=by rw [qdp,HN.out.1,←hN1];exact Nat.min_comm _ _
   have hl2:(cutL 42 u).length=N2:=by rw [qdp,HN.out.2.1,←hN2];exact Nat.min_comm _ _
   have hl3':(cutL 11 x).length=N3:=by rw [qdp,HN.out.2.2,←hN3];exact Nat.min_comm _ _
   have hfin:RawOwn (W7.setRow (w.heap.size+1) #[.slice ay k cy,.slice z1 N1 y1,.slice z2 N2 y2,.slice z3 N3 y3]) (.slice ay k cy) (.slice z1 N1 y1) (.slice z2 N2 y2) (.slice z3 N3 y3) (cutT t) (cutL 42 l) (cutL 42 u) (cutL 11 x) :=
    ⟨⟨_,vs,by rw [hlt];exact kk _ _ _ _ _ _ (by decide) K3.out.rws,fun j hj=>by
     rw [hlt] at hj
     obtain⟨B',hB'⟩:=K3.out.rows.2 j hj
     have eg:(cutT t).getD j []=cutL 11 (t.getD j []):=qhx (by have:=HX.out.2.1;have:=HX.out.2.2;omega)
     rw [eg]
     exact⟨B',kk _ _ _ _ _ _ (by decide) hB'⟩⟩,⟨_,by rw [hl1];exact kk _ _ _ _ _ _ (by decide) i2⟩,⟨_,by rw [hl2];exact kk _ _ _ _ _ _ (by decide) i5⟩,⟨_,by rw [hl3'];exact kk _ _ _ _ _ _ (by decide) i8⟩⟩
   have HFin:=qH hfin
   clear hfin hlt hl1 hl2 hl3' kk k7 hs7 i2 i5 i8 K3 r0 r5 r6 hN1 hN2 hN3 hl3
   go_wp2_with (first | ((with_reducible refine qbJ rfl 25 _ rfl ((w.heap.size+1+1)) ?_ 25 #[.slice ay k cy,.slice z1 N1 y1,.slice z2 N2 y2,.slice z3 N3 y3] _ r7 Tryz.underlying25 ?_ 4 ?_ ?_ ?_);(next=>rfl);(next=>rfl);(next=>kernel_rfl);(next=>rfl)) | ((with_reducible refine wpList_store_row rfl 25 _ _ rfl (w.heap.size+1) #[.slice ay k cy,.slice z1 N1 y1,.slice z2 N2 y2,.slice z3 N3 y3] ?_ ?_ 25 _ r1 4 ?_ ?_ ?_ ?_ ?_);(next=>rfl);(next=>rfl);(next=>kernel_rfl);(next=>rfl);(next=>rfl);(next=>rfl)) | fail)
   exact bodyPost_ret (v:=.agg #[.slice ay k cy,.slice z1 N1 y1,.slice z2 N2 y2,.slice z3 N3 y3]) (qbN rfl _ _ (w.heap.size+1) 25 _ _ rfl (setRow_heap _ _ _ _ _ _ r1) Tryz.underlying25 rfl 4 (by kernel_rfl) rfl) rfl ⟨_,_,_,_,rfl,HFin.out,below_setRow hb7 (by omega) _⟩
end Go.Proofs.YtfminfgabiipjaaGreatDoor
namespace Go.Proofs.YtfminfgabiipjaaGreatDoor.p4
open Go.RowKit
def qgr (t:Tbl):Prop:=∀i k,k<(t.getD i []).length→((t.getD i []).getD k fd0).1.size≤140737488355328∧((t.getD i []).getD k fd0).2.size≤140737488355328
theorem qmn {t:Tbl}:wid t=(t.getD 0 []).length:=by
 unfold wid;first | rfl | (cases t <;> rfl)
theorem qdw (ao:Option Addr) (b off R c:Nat) (t:Tbl) (w:World) (hl:t.length=R) (hR:R≤1000) (hC:∀k,k<R→(t.getD k []).length≤1000) (hs:qgr t) (hT:TCells w ao b off t) :
  Calls Tryz.prog 48 #[.slice ao R c] w fun e w'=>SaysB w (TOk t) e w':=by
 by_cases h1:R<1
 ·have hi:(R:Int)<1:=by omega
  go_enter Tryz.func48,Tryz.ntmps48
  go_wp2_with fail
  go_ret
  exact .no (fun h=>absurd h.r1 (by omega)) qB
 have h1i:¬(R:Int)<1:=by omega
 by_cases h2:40<R
 ·have hi:(40:Int)<R:=by omega
  go_enter Tryz.func48,Tryz.ntmps48
  go_wp2_with fail
  go_ret
  exact .no (fun h=>absurd h.r2 (by omega)) qB
 have h2i:¬(40:Int)<R:=by omega
 have har:=hT.addr (by omega)
 subst har
 obtain⟨ra0,rb0,ro0,rc0,hc0,_⟩:=hT.row 0 (by omega)
 rw [←qmn] at hc0
 obtain⟨n,hn⟩:∃n,wid t=n:=⟨_,rfl⟩
 rw [hn] at hc0
 have HF:=qH (qA hT (qA hl (qA hC (qA hs (qA hn hc0)))))
 clear hT hl hC hs hn hc0
 go_enter Tryz.func48,Tryz.ntmps48
 go_wp2_with fail
 go_loopw [3] (fun x3 W=>∃k:Nat,k≤R∧x3=.int .i64 k∧Hid (∀i,i<k→1≤n∧n≤10∧(t.getD i []).length=n∧FAll (t.getD i []))∧Hid (Below w.heap.size w W)) (fun x3 _=>R-(intOf x3).toNat)
 case atStart=>exact⟨0,qam _,rfl,qH (fun i hi=>absurd hi (by omega)),qH qB⟩
 case round =>
  obtain⟨k,hk,rfl,hJ,hB⟩:=hrel
  by_cases hkn:k<R
  ·have hki:(k:Int)<R:=by omega
   have hkl:k<t.length:=by have:=HF.out.2.1;omega
   obtain⟨ra,rb,ro,rc,d0,d1⟩:=(HF.out.1.below hB.out).row k hkl
   have e0:=(hB.out.cell (p:=⟨b,off+0,none⟩) (qac w _ HF.out.2.2.2.2.2)).trans HF.out.2.2.2.2.2
   obtain⟨l,hll⟩:∃l,(t.getD k []).length=l:=⟨_,rfl⟩
   have hl3:=HF.out.2.2.1 k hkn
   rw [hll] at d0 hl3
   have c0:∀W,Below wr.heap.size wr W→W.cell? ⟨b,off+k,none⟩=some (.slice ra l rc):=fun W h=>(h.cell (p:=⟨b,off+k,none⟩) (qac wr _ d0)).trans d0
   have hR0:0<R:=by omega
   have c1:∀W,Below wr.heap.size wr W→W.cell? ⟨b,off,none⟩=some (.slice ra0 n rc0):=fun W h=>(h.cell (p:=⟨b,off+0,none⟩) (qac wr _ e0)).trans e0
   have HL:=qH (fun (W:World) (h:Below wr.heap.size wr W)=>qdD ra rb ro l rc (t.getD k []) W hll (by omega) (fun j hj=>HF.out.2.2.2.1 k j (by omega)) (d1.below h))
   have HLL:=qH (qA hll hkl)
   have hst:=Below.refl wr.heap.size wr
   clear d1 hll d0 e0 hkl
   by_cases g1:l<1
   ·have g1i:(l:Int)<1:=by omega
    go_wp2_with fail
    refine wp_region_held_drew (S:=fun W=>Below wr.heap.size wr W) (by kernel_rfl) hst.drew (fun hS0=>?_)
    refine hT 0 (h:=hT 1 (h:=hT 2 (h:=hT 3 (h:=hT 4 (h:=hT 5 (h:=hT 6 (h:=hU 7 (h:=hU 8 (h:=hU 9 (h:=hU 10 (h:=hU 11 (h:=hU 12 (h:=hT 13 (h:=hT 14 (h:=hU 15 (h:=hU 16 (h:=hU 17 (h:=hU 18 (h:=hU 19 (h:=hU 20 (h:=hU 21 (h:=hU 22 (h:=hU 23 (h:=hU 24 (h:=hT 25 (h:=hT 26 (h:=hU 27 (h:=hU 28 (h:=hU 29 (h:=hU 30 (h:=hU 31 (h:=hU 32 (h:=hT 33 (h:=?_))))))))))))))))))))))))))))))))))
    refine wpAnyH_done (by kernel_rfl) ?_ _
    go_wp2_with fail
    go_ret
    exact .no (fun h=>by have:=(h.rows k HLL.out.2).1;have:=h.c1;have:=HLL.out.1;omega) hB.out.drew
   have g1i:¬(l:Int)<1:=by omega
   have g1b:decide ((l:Int)<1)=false:=decide_eq_false g1i
   by_cases g2:10<l
   ·have g2i:(10:Int)<l:=by omega
    go_wp2_with fail
    refine wp_region_held_drew (S:=fun W=>Below wr.heap.size wr W) (by kernel_rfl) hst.drew (fun hS0=>?_)
    refine hT 0 (h:=hT 1 (h:=hT 2 (h:=hT 3 (h:=hT 4 (h:=hT 5 (h:=hT 6 (h:=hT 7 (h:=hT 8 (h:=hT 9 (h:=hT 10 (h:=hT 11 (h:=hT 12 (h:=hT 13 (h:=hT 14 (h:=hU 15 (h:=hU 16 (h:=hU 17 (h:=hU 18 (h:=hU 19 (h:=hU 20 (h:=hU 21 (h:=hU 22 (h:=hU 23 (h:=hU 24 (h:=hT 25 (h:=hT 26 (h:=hU 27 (h:=hU 28 (h:=hU 29 (h:=hU 30 (h:=hU 31 (h:=hU 32 (h:=hT 33 (h:=?_))))))))))))))))))))))))))))))))))
    refine wpAnyH_done (by kernel_rfl) ?_ _
    go_wp2_with fail
    go_ret
    exact .no (fun h=>by have:=(h.rows k HLL.out.2).1;have:=h.c2;have:=HLL.out.1;omega) hB.out.drew
   have g2i:¬(10:Int)<l:=by omega
   have g2b:decide ((10:Int)<l)=false:=decide_eq_false g2i
   by_cases g3:l=n
   case neg =>
    have g3i:((l:Int) != (n:Int))=true:=by rw [bne_iff_ne];omega
    have G3:=qH g3
    clear g3
    go_wp2_with fail
    refine wp_region_held_drew (S:=fun W=>Below wr.heap.size wr W) (by kernel_rfl) hst.drew (fun hS0=>?_)
    refine hT 0 (h:=hT 1 (h:=hT 2 (h:=hT 3 (h:=hT 4 (h:=hT 5 (h:=hT 6 (h:=hT 7 (h:=hT 8 (h:=hT 9 (h:=hT 10 (h:=hT 11 (h:=hT 12 (h:=hT 13 (h:=hT 14 (h:=hT 15 (h:=hT 16 (h:=hT 17 (h:=hT 18 (h:=hT 19 (h:=hT 20 (h:=hT 21 (h:=hT 22 (h:=hT 23 (h:=hT 24 (h:=hT 25 (h:=hT 26 (h:=hU 27 (h:=hU 28 (h:=hU 29 (h:=hU 30 (h:=hU 31 (h:=hU 32 (h:=hT 33 (h:=?_))))))))))))))))))))))))))))))))))
    refine wpAnyH_done (by kernel_rfl) ?_ _
    go_wp2_with fail
    go_ret
    exact .no (fun h=>G3.out (by have:=(h.rows k HLL.out.2).1;have:=HLL.out.1;have:=HF.out.2.2.2.2.1;omega)) hB.out.drew
   have g3i:((l:Int) != (n:Int))=false:=by simp [g3]
   have G3:=qH g3
   clear g3
   go_wp2_with fail
   refine wp_region_held_drew (S:=fun W=>Below wr.heap.size wr W) (by kernel_rfl) hst.drew (fun hS0=>?_)
   refine hT 0 (h:=hT 1 (h:=hT 2 (h:=hT 3 (h:=hT 4 (h:=hT 5 (h:=hT 6 (h:=hT 7 (h:=hT 8 (h:=hT 9 (h:=hT 10 (h:=hT 11 (h:=hT 12 (h:=hT 13 (h:=hT 14 (h:=hT 15 (h:=hT 16 (h:=hT 17 (h:=hT 18 (h:=hT 19 (h:=hT 20 (h:=hT 21 (h:=hT 22 (h:=hT 23 (h:=hT 24 (h:=hT 25 (h:=hT 26 (h:=hT 27 (h:=hT 28 (h:=hT 29 (h:=hT 30 (h:=?_)))))))))))))))))))))))))))))))
   refine hC 31 (HL.out _ hst.drew) (h:=?_)
   rintro e w2 ⟨ok,rfl,hok,hb⟩
   have HO:=qH (qA hok (qbU hb))
   clear hok
   cases ok with
   | true =>
    refine⟨_,rfl,HO.out.2,hN (h:=?_)⟩
    have hS2:=HO.out.2
    refine hT 32 (h:=hT 33 (h:=?_))
    refine wpAnyH_done (by kernel_rfl) ?_ _
    go_wp2_with fail
    go_roundw
    case rel=>exact⟨k+1,hkn,by go_num,qH (fun i hi=>by
     rcases (show i<k∨i=k by omega) with h | h
     ·exact hJ.out i h
     ·rw [h];exact⟨by have:=G3.out;omega,by have:=G3.out;omega,HLL.out.1.trans G3.out,HO.out.1.1 (by first | exact rfl | trivial)⟩),qH (hB.out.trans (HO.out.2.mono hB.out.size))⟩
    case measure=>simp [intOf];omega
   | false =>
    refine⟨_,rfl,HO.out.2,hN (h:=?_)⟩
    have hS2:=HO.out.2
    refine hT 32 (h:=hT 33 (h:=?_))
    refine wpAnyH_done (by kernel_rfl) ?_ _
    go_wp2_with fail
    go_ret
    exact .no (fun h=>absurd (HO.out.1.2 (h.rows k HLL.out.2).2) (by decide)) (hB.out.trans (HO.out.2.mono hB.out.size))
  ·obtain rfl:k=R:=by omega
   go_wp2_with fail
   go_ret
   have hl:=HF.out.2.1
   have hw:=HF.out.2.2.2.2.1
   have h0:=hJ.out 0 (by omega)
   exact .yes ⟨by omega,by omega,by omega,by omega,fun i hi=>⟨by rw [hw];exact (hJ.out i (by omega)).2.2.1,(hJ.out i (by omega)).2.2.2⟩⟩ hB.out
theorem qkC (ao:Option Addr) (b off R c:Nat) (t:Tbl) (w:World) (hl:t.length=R) (hR:R≤1000) (hC:∀k,k<R→(t.getD k []).length≤1000) (hs:qgr t) (hT:TCells w ao b off t) :
  Calls Tryz.prog 13 #[.slice ao R c] w fun e w'=>(TOk t∧e=.returned (.int .i64 0)∨¬TOk t∧e=.returned (.int .i64 60))∧Below w.heap.size w w':=by
 have HR:=qH (qdw ao b off R c t w hl hR hC hs hT)
 clear hl hC hs hT
 go_enter Tryz.func13,Tryz.ntmps13
 go_wp2_with fail
 refine HR.out.mono ?_
 rintro e w2 ⟨r,rfl,hr,hb⟩
 have HX:=qH (qA hr hb)
 clear hr hb
 cases r with
 | true =>
  go_wp2_with fail
  go_ret
  exact⟨qau ⟨HX.out.1.1 (by first | exact rfl | trivial),rfl⟩,HX.out.2⟩
 | false =>
  go_wp2_with fail
  go_ret
  exact⟨qaq ⟨fun h=>absurd (HX.out.1.2 h) (by decide),rfl⟩,HX.out.2⟩
theorem ql8 (q:Rat) (v:Value) (w:World) (hv:qbK w v q):Calls Tryz.prog 110 #[v] w fun e w'=>e=.returned (.bool (decide (q=0)))∧Below w.heap.size w w':=by
 obtain⟨m,o,rfl,⟨am,bm,om,cm,n,M,rfl,Im,hM⟩,⟨ao,bo,oo,co,no,O,rfl,_,_⟩⟩:=hv
 have h0:((n:Int) == 0)=decide (q=0):=by
  have h1:n=0↔q=0:=by
   rw [qgg Im,hM,Int.natAbs_eq_zero]
   exact Rat.num_eq_zero
  by_cases h:q=0
  ·rw [decide_eq_true h];simp [h1.2 h]
  ·rw [decide_eq_false h,beq_eq_false_iff_ne]
   have:=mt h1.1 h
   omega
 generalize decide (q.num<0)=b at *
 generalize decide (q=0)=z at *
 have k1:=cell_of_row (w.alloc (.cells #[.bool b,.slice am n cm,.bool false,.slice ao no co] 123)) w.heap.size 1 _ _ _ (qM _ _ _ rfl)
 clear Im hM
 go_enter Tryz.func110,Tryz.ntmps110
 go_wp2_with fail
 go_ret
 exact⟨rfl,qbI qB qN⟩
end Go.Proofs.YtfminfgabiipjaaGreatDoor.p4
