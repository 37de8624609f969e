/- Ad, part 28: Rh Pt Ri Rj Rk -/
import Derived.Deep.RegionHeld
import Derived.Deep.RegionHeld3
import Derived.Test.YtfminfgabiipjaaGreatDoorAd0
import Derived.Test.YtfminfgabiipjaaGreatDoorAd10
import Derived.Test.YtfminfgabiipjaaGreatDoorAd27
set_option maxRecDepth 100000
set_option maxHeartbeats 16000000
namespace Go.Proofs.YtfminfgabiipjaaGreatDoor.p4
open Go.RowKit
def MagHi (W:World) (B:Nat) (v:Value) (x:Nat):Prop:=∃(ao:Option Addr) (b off c n:Nat) (L:List Nat),v=.slice ao n c∧IsM W ao b off c n L∧(0<n→B≤b)∧mval L=x
theorem MagHi.mag {W:World} {B:Nat} {v:Value} {x:Nat} (h:MagHi W B v x):MagAt W v x:=by
 obtain⟨ao,b,off,c,n,L,rfl,h1,_,h2⟩:=h
 exact⟨ao,b,off,c,n,L,rfl,h1,h2⟩
theorem MagHi.below {W W':World} {B:Nat} {v:Value} {x:Nat} (h:MagHi W B v x) (hb:Below W.heap.size W W'):MagHi W' B v x:=by
 obtain⟨ao,b,off,c,n,L,rfl,h1,h2,h3⟩:=h
 exact⟨ao,b,off,c,n,L,rfl,h1.below hb,h2,h3⟩
theorem MagHi.set {W:World} {B g k:Nat} {v u:Value} {x:Nat} (h:MagHi W B v x) (hg:g<B):MagHi (W.setCell ⟨g,k,none⟩ u) B v x:=by
 obtain⟨ao,b,off,c,n,L,rfl,h1,h2,h3⟩:=h
 refine⟨ao,b,off,c,n,L,rfl,⟨h1.len,h1.cap,⟨h1.cells.addr,fun j hj=>?_⟩,h1.dig,h1.nrm⟩,h2,h3⟩
 have hne:b≠g:=by have:=h2 (by rw [←h1.len];omega);omega
 exact (World.cell?_setCell_far W ⟨g,k,none⟩ ⟨b,off+j,none⟩ u (by show g≠b;omega)).trans (h1.cells.cell j hj)
theorem Cells.drop {W:World} {b off:Nat} {L:List Nat} (h:Cells W (some ⟨b,off,none⟩) b off L) (k:Nat):Cells W (some ⟨b,off+k,none⟩) b (off+k) (L.drop k) :=
 ⟨fun _=>rfl,fun j hj=>by
  rw [qaY] at hj
  rw [Nat.add_assoc,h.cell (k+j) (by omega)]
  unfold dg
  rw [qaa,qaa,List.getElem?_drop]⟩
theorem qkQ {W W':World} {o:Obj} {B:Nat} (h:Below B (W.alloc o) W') (hB:W.heap.size≤B):Below W.heap.size W W':=((Below.refl _ W).alloc qN o).trans (h.mono hB)
theorem own_below {W W':World} {B C e n:Nat} {v:Value} {xs:List Value} (h:W.ownsRow C e 1 v n xs) (hb:Below B W W') (hB:W.heap.size≤B):W'.ownsRow C e 1 v n xs:=by
 refine⟨h.1,?_⟩
 rcases h.2 with h2 | ⟨g,c,cur,rfl,h3,h4,h5⟩
 ·exact qau h2
 ·refine qaq ⟨g,c,cur,rfl,h3,?_,h5⟩
  have hlt:g<W.heap.size:=by
   rcases qbb g W.heap.size with h' | h'
   ·exact h'
   ·rw [Array.getElem?_eq_none h'] at h4;exact absurd h4 (by simp)
  rw [hb.block g (by omega)]
  exact h4
theorem cut_hi (B n:Nat) (v:Value) (L:List Nat) (w:World) (hO:w.ownsRow B 3 1 v n (row64 L)) (hd:Dig L) (hN:n≤17592186044416):Calls Tryz.prog 194 #[v] w fun e w'=>∃u,e=.returned u∧w'=w∧MagHi w B u (mval L):=by
 have hl:L.length=n:=by have:=hO.1;rw [qdd] at this;omega
 rcases hO.2 with ⟨rfl,rfl⟩ | ⟨g,c,cur,rfl,hb,hg,hnc,hm,hs,ht⟩
 ·obtain rfl:L=[]:=qa3.1 hl
  refine (qeT none 0 0 0 0 [] w rfl (qam _) qN ⟨fun h=>absurd h (by simp),fun k h=>absurd h (by simp)⟩ Dig.nil).mono ?_
  rintro e w' ⟨u,rfl,rfl,ao,b,off,c,n,L,rfl,h1,h2⟩
  have hz:=h1.nrm.zero.1 (by rw [h2];rfl)
  exact⟨_,rfl,rfl,ao,b,off,c,n,L,rfl,h1,fun h=>by rw [←h1.len] at h;omega,h2⟩
 ·refine (qkX (some ⟨g,0,none⟩) g 0 c n L w hl hN hnc (qcf hO hl)).mono ?_
  rintro e w' ⟨m,rfl,rfl,hmn,hz,h0⟩
  refine⟨_,rfl,rfl,some ⟨g,0,none⟩,g,0,c,m,L.take m,rfl,⟨?_,by omega,(qcf hO hl).take m,hd.take m,?_⟩,fun _=>hb,qce hz⟩
  ·rw [qao];omega
  ·have hl:(L.take m).length=m:=by rw [qao];omega
   rcases h0 with h0 | h0
   ·exact qau (by rw [hl,h0])
   ·right
    rw [hl]
    by_cases hm0:m=0
    ·subst hm0
     exact absurd (hz _ (qam _)) h0
    ·rw [qaa,qaV (by omega),←qaa];exact h0
theorem qiq (x y K:Nat) (hK:K≤17592186000000) (vm vo:Value) (w:World) (hm:MagAt w vm x) (ho:MagAt w vo y) (hx:Fit x K) (hy:Fit y K) (hy0:0<y) :
  Calls Tryz.prog 189 #[vm,vo] w fun e w'=>∃q r,e=.returned (.tuple #[q,r])∧Below w.heap.size w w'∧MagAt w' q (x / y)∧MagAt w' r (x % y)∧HiS w.heap.size q:=by
 obtain⟨am,bm,om,cm,n,M,rfl,Im,rfl⟩:=hm
 obtain⟨ao,bo,oo,co,no,O,rfl,Io,rfl⟩:=ho
 have hn:n≤K:=hx.len Im
 have hno:no≤K:=hy.len Io
 have hno0:0<no:=by
  rcases qaJ no with h | h
  ·have:=(Io.nrm.zero).2 (by rw [Io.len,h]);omega
  ·exact h
 have hao:=Io.addr hno0
 subst hao
 have HM:=qH Im
 have HO:=qH Io
 have Hy0:=qH hy0
 clear Im Io hx hy hy0
 by_cases h1:no=1
 ·subst h1
  have hco:=HO.out.cell 0 (by omega)
  obtain⟨d,hd⟩:∃d,dg O 0=d:=⟨_,rfl⟩
  rw [hd,qba] at hco
  have hOd:O=[d]:=by
   obtain⟨a,ha⟩:=List.length_eq_one_iff.1 HO.out.len
   subst ha
   rw [←hd];rfl
  have hmv:mval O=d:=by rw [hOd];simp [mval]
  have hdl:d<10000:=by rw [←hd];exact HO.out.dig 0
  have Hmv:=qH hmv
  have hd0:0<d:=by have:=Hy0.out;omega
  rw [hmv]
  have HC:=qH (once_any (mval M) K d (by omega) hd0 (by omega) (.slice am n cm) w ⟨am,bm,om,cm,n,M,rfl,HM.out.len,HM.out.cap,hn,HM.out.cells,HM.out.dig,rfl⟩)
  obtain⟨r,hr⟩:∃r,mval M % d=r:=⟨_,rfl⟩
  have hrl:r<d:=by rw [←hr];exact qa9 _ hd0
  rw [hr] at HC ⊢
  clear hd hOd hmv hr
  go_enter Tryz.func189,Tryz.ntmps189
  go_wp2_with (go_at_call 201;refine HC.out.mono ?_)
  rintro e w1 ⟨q,rfl,hb,hq,hqh⟩
  have HD:=qH (qdc (N:=1) (qlO w1 r 3 rfl qN) (Dig.nil.snoc (d:=r) (by omega)) qN)
  have Hb:=qH hb
  have Hq:=qH hq
  clear hb hq
  go_wp2_with (go_at_call 194;refine (qgb _ 1 _ _ HD.out (by decide)).mono ?_)
  rintro e w2 ⟨u,rfl,rfl,hu⟩
  go_wp2
  go_ret2
  exact⟨_,_,rfl,Hb.out.alloc Hb.out.size _,Hq.out.below (qB.alloc qN _),by simpa [mval] using hu,hqh⟩
 ·obtain⟨n1,hn1⟩:∃n1,no=n1+1:=⟨no-1,by omega⟩
  have e1:(no:Int)-1=n1:=by omega
  by_cases h2:n≤n1
  ·have hlt:mval M<mval O:=by
    have a1:=HM.out.dig.lt
    have a2:=HO.out.nrm.ge (by rw [HO.out.len];omega)
    rw [HM.out.len] at a1
    rw [HO.out.len,hn1,qbD] at a2
    have a3:10000 ^ n≤10000 ^ n1:=qaC (by decide) h2
    omega
   have Hlt:=qH hlt
   clear hlt
   go_enter Tryz.func189,Tryz.ntmps189
   go_wp2_with (at_builtin;refine qe0 (S:=[]) rfl _ _ rfl ((Below.refl _ w).alloc qN _) rfl (qjJ w 3 rfl qN) (HM.out.cells.below ((Below.refl _ w).alloc qN _)) HM.out.len rfl rfl (by omega) ?_)
   intro v' w' ho' hb'
   go_wp2
   go_ret2
   refine⟨_,_,rfl,hb'.out,?_,?_,fun a n c e=>by cases e⟩
   ·rw [qbF Hlt.out];exact MagAt.nil _
   ·rw [qbG Hlt.out];exact qhI ho'.out HM.out.dig HM.out.nrm
  ·obtain⟨n2,hn2⟩:∃n2,n1=n2+1:=⟨n1-1,by omega⟩
   have e2:(n1:Int)-1=n2:=by omega
   obtain⟨L,hL⟩:∃L,n=L+n1:=⟨n-n1,by omega⟩
   have e3:(n:Int)-n1=L:=by omega
   have ham:=HM.out.addr (by omega)
   subst ham
   have hcap:=HM.out.cap
   have hmk:=run_make_row' (P:=Tryz.prog) 86 3 (.int .i64 0) 8 Tryz.underlying86 qeW rfl .i64 .i64 L (by omega) (by omega)
   obtain⟨t1,t2,t3,t4⟩:=top_two HO.out.dig HO.out.nrm (n:=n1) (by rw [HO.out.len];omega) (by omega)
   have hc1:=HO.out.cell n1 (by omega)
   have hc2:=HO.out.cell n2 (by omega)
   obtain⟨d1,hd1⟩:∃d,dg O n1=d:=⟨_,rfl⟩
   obtain⟨d2,hd2⟩:∃d,dg O n2=d:=⟨_,rfl⟩
   rw [show n1-1=n2 by omega,hd1,hd2] at t1 t2 t3 t4
   rw [hd1] at hc1
   rw [hd2] at hc2
   obtain⟨top,htop⟩:∃top,d1*10000+d2=top:=⟨_,rfl⟩
   have e4:(d1:Int)*10000+d2=top:=by omega
   rw [htop] at t1 t2 t3 t4
   have Ht:=qH (qA t1 (qA t2 (qA t3 t4)))
   have hd1l:d1<10000:=by omega
   have hb1:(n1:Int)<no:=by omega
   have hb2:(n2:Int)<no:=by omega
   have hb3:(L:Int)≤n:=by omega
   have hb4:L<cm:=by omega
   have hb5:0<cm-L:=by omega
   have hb6:¬cm-L=0:=by omega
   have hb7:¬cm≤L:=by omega
   have hb8:¬L=cm:=by omega
   have Hn:=qH (qA hn1 (qA hn2 hL))
   clear hd1 hd2 htop t1 t2 hn1 hn2 hL
   go_enter Tryz.func189,Tryz.ntmps189
   go_wp2_with fail
   go_quiet (fail)
   go_wp2_with (at_builtin;refine qe0 (S:=[]) (L:=M.drop L) (b:=bm) (off:=om+L) rfl _ _ rfl (qB.alloc qN _) rfl (qjJ _ 3 (by simp) (by simp)) ?ac ?al rfl rfl ?ae ?_)
   case ac=>exact (HM.out.cells.drop L).below (((below_drewN (Below.refl _ w) nq).alloc qN _).alloc (by simp) _)
   case al=>rw [qaY,HM.out.len]
   case ae=>omega
   intro v' w' ho' hb'
   have HB:=qH (((below_drewN (Below.refl _ w) nq).alloc qN _).trans (hb'.out.mono (by simp)))
   have HQ:=qH (own_below (qfG (w.drewN nq) L (by unfold maxLen;omega)) hb'.out (by simp))
   have HS:=qH (show w.heap.size<w'.heap.size by have:=hb'.out.size;simp at this;omega)
   have HR:=qH (qdc (N:=n1+1) ho'.out ((Dig.nil).append (HM.out.dig.drop L)) (by omega))
   have HI:=qH (QuoInv.start (b:=mval O) (L:=L) (n:=n1) HM.out.dig (by rw [HM.out.len];omega) (by have:=HO.out.nrm.ge (by rw [HO.out.len];omega);rwa [HO.out.len,Hn.out.1,qbD] at this))
   clear hmk ho' hb' hc1 hc2
   go_wp2_with fail
   go_loopw [11,12] (fun x11 x12 W=>∃(k r:Nat) (z:Int) (R:List Nat),k≤L∧x12=.int .i64 z∧Hid (z+1=k)∧Hid (QuoInv M (mval O) L k R r)∧Hid (k<L→MagAt W x11 r)∧Hid (DigAt W x11 r (n1+1))∧Hid (W.ownsRow w.heap.size 3 1 (.slice (some ⟨w.heap.size,0,none⟩) L L) L (row64 R))∧Hid (Below w.heap.size w W)∧Hid (w.heap.size<W.heap.size)) (fun _ x12 _=>(intOf x12+1).toNat)
   case atStart=>exact⟨L,_,_,_,qae _,rfl,qH (by omega),HI,qH (fun h=>absurd h (by omega)),HR,HQ,HB,HS⟩
   case round =>
    clear HB HQ HS HR HI
    obtain⟨k,r,z,R,hk,rfl,hz,hI,hM,hD,hQ,hB,hS⟩:=hrel
    by_cases hk0:0<k
    ·obtain⟨j,rfl⟩:∃j,k=j+1:=⟨k-1,by omega⟩
     obtain rfl:z=(j:Int):=by have:=hz.out;omega
     have hji:(j:Int)<n:=by omega
     have hcd:=(HM.out.below hB.out).cell j (by omega)
     obtain⟨d,hd⟩:∃d,dg M j=d:=⟨_,rfl⟩
     have hdl:d<10000:=by rw [←hd];exact HM.out.dig j
     rw [hd] at hcd
     obtain⟨ar,br,or,cr,nr,T,rfl,lr,cpr,hnr,CR,DR,hTr⟩:=hD.out
     have Hd:=qH hd
     have HT:=qH (qA lr (qA CR (qA DR hTr)))
     clear hd lr CR DR hTr
     go_wp2_with (at_builtin;refine qe0 (S:=[d]) rfl _ _ rfl ((Below.refl _ wr).alloc qN _) rfl (qlO wr d 3 rfl qN) (HT.out.2.1.below ((Below.refl _ wr).alloc qN _)) HT.out.1 rfl rfl (by omega) ?_)
     intro v1 w1 ho1 hb1
     have HD1:Dig ([d]++T):=(Dig.nil.snoc (d:=d) hdl).append HT.out.2.2.1
     have HC:=qH (cut_hi _ _ _ _ w1 ho1.out HD1 (by omega))
     have hv:mval (d :: T)=d+10000*r:=by rw [←HT.out.2.2.2];rfl
     rw [hv] at HC
     have hB1:=qH (hB.out.trans (hb1.out.mono (by have:=hS.out;omega)))
     have hQ1:=qH (own_below hQ.out hb1.out qN)
     have hS1:=qH (show w.heap.size<w1.heap.size by have:=hb1.out.size;have:=hS.out;omega)
     clear hM hD hQ hB HD1 hv ho1 hb1 hcd
     go_wp2_with (go_at_call 194;refine HC.out.mono ?_)
     rintro e w2 ⟨u,rfl,e2,hu⟩
     rw [e2]
     clear e2
     obtain⟨au,bu,ou,cu,nu,U,rfl,IU,hbu,hUt⟩:=hu
     obtain⟨t,ht⟩:∃t,d+10000*r=t:=⟨_,rfl⟩
     rw [ht] at hUt
     have htb:t<mval O*10000:=by have:=hI.out.rest;omega
     have hfit:Fit t (n1+2):=by
      have a:=HO.out.dig.lt
      rw [HO.out.len,Hn.out.1] at a
      unfold Fit
      rw [show n1+2=n1+1+1 from rfl,qaA]
      omega
     have hul:nu≤n1+2:=by rw [←IU.len];exact IU.nrm.len (by rw [hUt];exact hfit)
     have hbu2:0<nu→w.heap.size+1≤bu:=fun h=>qai hS.out (hbu h)
     have HU:=qH (qA IU (qA hbu2 hUt))
     clear hbu2
     have Htb:=qH (qA ht (qA htb hfit))
     clear IU hbu hUt HC htb hfit ht
     go_wp2_with fail
     go_loopw [13,14] (fun x13 x14 W=>∃(kk f:Nat) (zz:Int),n2≤kk∧kk≤n1+2∧x14=.int .i64 zz∧Hid (zz+1=kk)∧x13=.int .i64 f∧Hid (f=mval (U.drop kk))∧f<1000000000000∧W=w1) (fun _ x14 _=>(intOf x14+1).toNat)
     case atStart=>exact⟨n1+2,0,_,by have:=Hn.out.2.1;omega,qae _,rfl,qH (by omega),rfl,qH (by rw [qay (by rw [HU.out.1.len];exact hul)];rfl),by decide,rfl⟩
     case round =>
      obtain⟨kk,f,zz,hkk,hkk2,rfl,hzz,rfl,hf,hfl,hW⟩:=hrel
      have hW2:=hW.symm
      clear hW
      subst hW2
      by_cases hq0:n2<kk
      ·obtain⟨q,rfl⟩:∃q,kk=q+1:=⟨kk-1,by omega⟩
       obtain rfl:zz=(q:Int):=by have:=hzz.out;omega
       have hqn:(n2:Int)≤q:=by omega
       by_cases hqu:q<nu
       ·have hau:=HU.out.1.addr (by omega)
        subst hau
        have hcq:=HU.out.1.cell q hqu
        obtain⟨x,hx⟩:∃x,dg U q=x:=⟨_,rfl⟩
        have hxl:x<10000:=by rw [←hx];exact HU.out.1.dig q
        rw [hx] at hcq
        have hs:=qha hf.out hx
        have hsl:=qjp (q:=q) HU.out.1.dig HU.out.1.len (by have:=Hn.out.2.1;omega)
        rw [←hs] at hsl
        have Hs:=qH hs
        clear hs hx
        go_wp2_with fail
        go_roundw
        case rel=>exact⟨q,f*10000+x,_,by omega,by omega,rfl,qH (by omega),by go_num,Hs,hsl,trivial⟩
        case measure=>simp [intOf]
       ·have hs:=qha (x:=0) hf.out (qcP (by rw [HU.out.1.len];omega))
        have hsl:=qjp (q:=q) HU.out.1.dig HU.out.1.len (by have:=Hn.out.2.1;omega)
        rw [←hs] at hsl
        have Hs:=qH hs
        clear hs
        go_wp2_with fail
        go_roundw
        case rel=>exact⟨q,f*10000+0,_,by omega,by omega,rfl,qH (by omega),by go_num,Hs,hsl,trivial⟩
        case measure=>simp [intOf]
      ·obtain rfl:kk=n2:=by omega
       have hff:t / 10000 ^ kk=f:=by rw [hf.out,qhE HU.out.1.dig,HU.out.2.2]
       have hH:=Half.start Ht.out.1 Ht.out.2.1 Htb.out.2.1 Ht.out.2.2.1
       rw [hff] at hH
       obtain⟨T1,hT1⟩:∃T1,top+1=T1:=⟨_,rfl⟩
       obtain⟨lo,hlo⟩:∃lo,f / T1=lo:=⟨_,rfl⟩
       obtain⟨h',hh'⟩:∃h',f / top=h':=⟨_,rfl⟩
       obtain⟨hi,hhi⟩:∃hi,h'+1=hi:=⟨_,rfl⟩
       rw [hT1,hlo,hh',hhi] at hH
       have f1:(top:Int)+1=T1:=by omega
       have f2:=tdivN f T1 lo hlo
       have f3:=tdivN f top h' hh'
       have f4:(h':Int)+1=hi:=by omega
       have f5:((T1:Int) == 0)=false:=by rw [beq_eq_false_iff_ne];omega
       have f6:((top:Int) == 0)=false:=by rw [beq_eq_false_iff_ne];omega
       have f7:¬T1=0:=by omega
       have f8:¬top=0:=by omega
       have f9:=hH.bound
       have f10:=hH.less
       have HH:=qH hH
       have f11:f / T1=lo:=hlo
       have hzz0:zz<kk:=by have:=hzz.out;omega
       clear hH hff hT1 hlo hh' hhi
       go_wp2_with fail
       go_quiet (fail)
       go_wp2_with fail
       clear f2 f3 f4 f5 f6 f7 f8 f11
       go_loopw [15,16] (fun x15 x16 W=>∃lo hi:Nat,x15=.int .i64 lo∧x16=.int .i64 hi∧Hid (Half (mval O) t lo hi)∧lo<hi∧hi≤10001∧Hid (Below w1.heap.size w1 W)) (fun x15 x16 _=>(intOf x16-intOf x15).toNat)
       case atStart=>exact⟨lo,hi,rfl,rfl,HH,f10,f9,qH (below_drewN qB _)⟩
       case round =>
        clear HH f9 f10
        obtain⟨lo,hi,rfl,rfl,hH,hlh,hhb,hB2⟩:=hrel
        by_cases hgo:1<hi-lo
        ·obtain⟨s2,hs2⟩:∃s2,lo+hi=s2:=⟨_,rfl⟩
         obtain⟨m,hm⟩:∃m,s2 / 2=m:=⟨_,rfl⟩
         have g1:(lo:Int)+hi=s2:=by omega
         have g2:(s2:Int) / 2=m:=by omega
         have g3:(1:Int)<(hi:Int)-lo:=by omega
         have hml:lo<m:=by omega
         have hmh:m<hi:=by omega
         have hOd:DigAt (wr.alloc (.cells #[.int .i64 (m:Int)] 3)) (.slice (some ⟨bo,oo,none⟩) no co) (mval O) no:=⟨_,bo,oo,co,no,O,rfl,HO.out.len,HO.out.cap,qae _,HO.out.cells.below ((hB1.out.trans (hB2.out.mono (by have:=hS1.out;omega))).alloc (by have:=hB2.out.size;have:=hS1.out;omega) _),HO.out.dig,rfl⟩
         have HP:=qH (qcA (mval O) m no 1 (by omega) _ _ _ hOd (SecAt.one (by omega) (heap_alloc_new wr _)))
         have Hh:=qH (qA hml hmh)
         clear hOd hs2 hm
         go_wp2_with (go_at_call 171;refine HP.out.mono ?_)
         rintro e wp ⟨p,rfl,hbp,hp⟩
         have hfp:Fit (mval O*m) (no+2):=by
          have a:Fit (mval O) no:=by have:=HO.out.dig.lt;rwa [HO.out.len] at this
          have b:Fit m 2:=by unfold Fit;omega
          exact a.mul b
         have hft:Fit t (no+2):=Htb.out.2.2.mono (by have:=Hn.out.1;omega)
         have hbw:Below w1.heap.size w1 wp:=(hB2.out.alloc hB2.out.size _).trans (hbp.mono (by have:=hB2.out.size;simp;omega))
         have HC2:=qH (qgb _ (no+2) p wp (hp.digs hfp) (by omega))
         have HUw:=qH (show MagAt wp (.slice au nu cu) t from MagAt.below ⟨au,bu,ou,cu,nu,U,rfl,HU.out.1,HU.out.2.2⟩ hbw)
         have Hbw:=qH hbw
         have Hf:=qH (qA hfp hft)
         clear hbw hfp hft hbp hp HP
         go_wp2_with (go_at_call 194;refine HC2.out.mono ?_)
         rintro e wq ⟨p2,rfl,e2,hp2⟩
         rw [e2]
         clear e2
         have HO2:=qH (qim (mval O*m) t (no+2) (by omega) p2 _ wp hp2 HUw.out Hf.out.1 Hf.out.2)
         clear hp2 HC2
         go_wp2_with (go_at_call 169;refine HO2.out.mono ?_)
         rintro e wo ⟨ro,rfl,hbo,hlt,heq⟩
         have Hbo:=qH (Hbw.out.trans (hbo.mono Hbw.out.size))
         clear hbo HO2
         by_cases hro:ro≤0
         ·have HN:=qH (hH.out.up Hh.out.2 (by
            rcases (show ro<0∨ro=0 by omega) with h | h
            ·have:=hlt.1 h;omega
            ·have:=heq.1 h;omega))
          clear hlt heq
          go_wp2_with fail
          go_roundw
          case rel=>exact⟨m,hi,rfl,rfl,HN,Hh.out.2,hhb,Hbo⟩
          case measure=>have:=Hh.out;simp [intOf];omega
         ·have HN:=qH (hH.out.down Hh.out.1 (qar Hh.out.2) (by
            rcases Nat.lt_trichotomy (mval O*m) t with h | h | h
            ·have:=hlt.2 h;omega
            ·have:=heq.2 h;omega
            ·exact h))
          clear hlt heq
          go_wp2_with fail
          go_roundw
          case rel=>exact⟨lo,m,rfl,rfl,HN,Hh.out.1,by have:=Hh.out.2;omega,Hbo⟩
          case measure=>have:=Hh.out;simp [intOf];omega
        ·have hdone:=hH.out.done (by omega)
         have hlr:R.length=L:=hI.out.len
         have hQw:=own_below hQ1.out hB2.out qN
         have hcr:wr.cell? ⟨w.heap.size,j,none⟩=some (.int .i64 ((dg R j:Nat):Int)):=(hQw.cellAt j (by omega)).trans (qdZ R j (by omega))
         have hfr:wr.frozen? ⟨w.heap.size,j,none⟩=false:=hQw.frozenAt j
         have hjL:(j:Int)<L:=by omega
         have hng:¬(1:Int)<(hi:Int)-lo:=by omega
         have hdig:=hI.out.digit hdl
         have hstep:=hI.out.step (k:=j) (by omega) Hd.out hdl
         rw [Htb.out.1,hdone] at hstep
         rw [Htb.out.1,hdone] at hdig
         have hBs:=(hB1.out.trans (hB2.out.mono (qar hS1.out))).setCell (p:=⟨w.heap.size,j,none⟩) qN (.int .i64 (lo:Int))
         have hSs:w.heap.size<(wr.setCell ⟨w.heap.size,j,none⟩ (.int .i64 (lo:Int))).heap.size:=by have:=hB2.out.size;have:=hS1.out;simp;omega
         have hU2:MagHi (wr.setCell ⟨w.heap.size,j,none⟩ (.int .i64 (lo:Int))) (w.heap.size+1) (.slice au nu cu) t:=(MagHi.below ⟨au,bu,ou,cu,nu,U,rfl,HU.out.1,HU.out.2.1,HU.out.2.2⟩ hB2.out).set (by omega)
         have hQs:=qgn hQw j lo rfl
         have hle:mval O*lo≤t:=by have:=hH.out.least;rwa [qaw] at this
         have hOd:DigAt ((wr.setCell ⟨w.heap.size,j,none⟩ (.int .i64 (lo:Int))).alloc (.cells #[.int .i64 (lo:Int)] 3)) (.slice (some ⟨bo,oo,none⟩) no co) (mval O) no:=⟨_,bo,oo,co,no,O,rfl,HO.out.len,HO.out.cap,qae _,HO.out.cells.below (hBs.alloc (qar hSs) _),HO.out.dig,rfl⟩
         have hal:=heap_alloc_new (wr.setCell ⟨w.heap.size,j,none⟩ (.int .i64 (lo:Int))) (.cells #[.int .i64 (lo:Int)] 3)
         rw [show (wr.setCell ⟨w.heap.size,j,none⟩ (.int .i64 (lo:Int))).heap.size=wr.heap.size by simp] at hal
         have HP:=qH (qcA (mval O) lo no 1 (by omega) _ _ _ hOd (SecAt.one (by omega) hal))
         clear hal
         have HX:=qH (qA hstep (qA hBs (qA hSs (qA hU2 (qA hQs hle)))))
         clear hOd hstep hBs hSs hU2 hQs hle hQw hlr hdone hdig
         go_wp2_with (go_at_call 171;refine HP.out.mono ?_)
         intro e wp p he hbp0 hp
         subst he
         have hbp2:=qkQ hbp0 (by simp)
         have hXo:=HX.out
         obtain⟨hstep,hBs,hSs,hU2,hQs,hle⟩:=hXo
         have HD2:=qH (qdQ t (mval O*lo) (n1+2) (by omega) _ p wp (hU2.mag.below hbp2) hp Htb.out.2.2 hle)
         have hB3:=qH (hBs.trans (hbp2.mono (qar hSs)))
         have hQ3:=qH (own_below hQs hbp2 qN)
         have hS3:=qH (qaj hSs hbp2.size)
         have hX3:=qH hstep
         clear hstep hBs hSs hU2 hQs hle hbp0 hbp2 hp HX HP
         go_wp2_with (go_at_call 170;refine HD2.out.mono ?_)
         rintro e wd ⟨v3,rfl,hbd,hv3⟩
         have Hv3:=qH hv3
         have Hbd:=qH hbd
         clear hv3 hbd HD2
         go_wp2_with fail
         go_roundw
         case rel =>
          refine⟨j,_,_,R.set j lo,by omega,rfl,qH (by omega),hX3,qH (fun _=>Hv3.out),qH (Hv3.out.digs ?_),qH (own_below hQ3.out Hbd.out qN),qH (hB3.out.trans (Hbd.out.mono (qar hS3.out))),qH (qaj hS3.out Hbd.out.size)⟩
          have a:=HO.out.dig.lt
          have b:=hX3.out.rest
          rw [HO.out.len,Hn.out.1] at a
          exact Nat.lt_trans b a
         case measure=>simp [intOf]
    ·obtain rfl:k=0:=by omega
     obtain rfl:z = -1:=by have:=hz.out;omega
     have HD:=qH (qdc (N:=L) hQ.out hI.out.dig qN)
     have HH:=qlM hQ.out
     rw [hI.out.done.1] at HD
     have HR:=qH (hM.out (by have:=Hn.out.2.2;omega))
     rw [hI.out.done.2] at HR
     go_wp2_with (first | (go_at_call 194;refine (qiO _ L _ _ HD.out (by omega)).mono ?_;rintro e w1 ⟨u,rfl,rfl,hu,hh⟩) | fail)
     go_ret2
     exact⟨_,_,rfl,hB.out,hu,HR.out,hh _ HH⟩
end Go.Proofs.YtfminfgabiipjaaGreatDoor.p4
namespace Go.Proofs.YtfminfgabiipjaaGreatDoor.p4
open Go.Lib Go.RowKit
theorem qjK:∀(k j a d:Nat),d<10 ^ k→padk (j+k) (a*10 ^ k+d)=padk j a++padk k d
 | 0,j,a,d,h=>by
  have:d=0:=by simpa using h
  subst this;simp [padk]
 | k+1,j,a,d,h=>by
  have e:a*10 ^ (k+1)=a*10 ^ k*10:=by rw [qaA,qat]
  show padk (j+k+1) _=_
  rw [padk,padk,e,show (a*10 ^ k*10+d) / 10=a*10 ^ k+d / 10 by omega,show (a*10 ^ k*10+d) % 10=d % 10 by omega,qjK k j a (d / 10) (by rw [qaA] at h;omega),qaZ]
def gtx:List Nat→List UInt8
 | []=>[]
 | d :: l=>gtx l++padk 4 d
theorem gtx_eq:∀(L:List Nat),(∀d∈L,d<10000)→gtx L=padk (4*L.length) (mval L)
 | [],_=>rfl
 | d :: L,h=>by
  have h1:=qjK 4 (4*L.length) (mval L) d (h d List.mem_cons_self)
  have e:mval (d :: L)=mval L*10 ^ 4+d:=by
   show d+10000*mval L=mval L*10000+d
   omega
  rw [e]
  show gtx L++padk 4 d=padk (4*L.length+4) _
  rw [h1,gtx_eq L (fun x hx=>h x (List.mem_cons_of_mem _ hx))]
theorem gtx_drop {L:List Nat} {j:Nat} (h:j<L.length):gtx (L.drop j)=gtx (L.drop (j+1))++padk 4 (dg L j):=by
 rw [qa1 h,gtx]
 unfold dg
 rw [qaa,qaf h];rfl
theorem pow4 (k:Nat):(10000:Nat) ^ k=10 ^ (4*k):=by rw [Nat.pow_mul]
theorem qli (L:List Nat):(gtx L).length=4*L.length:=by
 induction L with
 | nil=>rfl
 | cons d L ih=>rw [gtx,qag,ih,qgj,qbw];omega
def bare (x:Nat):List UInt8:=if x=0 then [] else decDigits x
theorem qlj {L:List Nat} (hd:Dig L):∃z,gtx L=List.replicate z 48++bare (mval L):=by
 have h1:=gtx_eq L hd.mem
 have h2:=hd.lt
 rw [pow4] at h2
 unfold bare
 by_cases h0:mval L=0
 ·rw [if_pos h0]
  rw [h0,qfH] at h1
  exact⟨4*L.length,by rw [h1,List.append_nil]⟩
 ·rw [if_neg h0]
  have hl:0<4*L.length:=by
   rcases qaJ L.length with h | h
   ·rw [qa3.1 h] at h0;exact absurd rfl h0
   ·omega
  exact⟨_,by rw [h1,qi3 _ _ hl h2]⟩
theorem qkN {x:Nat} {c:UInt8} {t:List UInt8} (h:bare x=c :: t):c≠48:=by
 unfold bare at h
 split at h
 ·cases h
 ·rintro rfl
  rename_i h0
  exact h0 (qeJ x (by rw [h];rfl))
theorem qjw {v m:Nat} (h:v<10 ^ m) (hm:m≤4):v<10000:=qaj h (qaC (n:=10) (by decide) hm)
theorem qid {v m:Nat} (h:v<10 ^ m) (hm:m≤3):v<1000:=qaj h (qaC (n:=10) (by decide) hm)
theorem qlp {L:List UInt8} {S:List Nat} {st i k v:Nat} (hSl:S.length=k) (h:mval S+10000 ^ k*dval (L.take i)=dval L) (hv:dval (L.take i)=dval (L.take st)*10 ^ (i-st)+v) (hc:(st=0∧i≤4)∨st+4=i) :
  mval (S++[v])+10000 ^ (k+1)*dval (L.take st)=dval L:=by
 rw [hv,qaX] at h
 rw [qcI,hSl,qaA,←h]
 refine qhb ?_
 rcases hc with ⟨h2,_⟩ | h2
 ·subst h2
  have e:dval (L.take 0)=0:=rfl
  rw [e,Nat.zero_mul,Nat.zero_mul]
 ·have e:i-st=4:=by omega
  rw [e]
theorem fit_len {v n k:Nat} (h:v<10 ^ n) (hn:n≤4*k):Fit v k:=by
 unfold Fit;rw [pow4]
 exact qaj h (qaC (by decide) hn)
theorem qdy {s:List UInt8} (h:Valid s):Fit (ival s).natAbs 150:=by
 rw [h.natAbs]
 exact fit_len (qiS _ _ rfl h.nums) (by have:=h.le;omega)
def qbP (W:World) (v:Value) (z:Int):Prop:=∃m,v=.agg #[.bool (decide (z<0)),m]∧MagAt W m z.natAbs
theorem qbP.below {W W':World} {v:Value} {z:Int} (h:qbP W v z) (hb:Below W.heap.size W W'):qbP W' v z:=by
 obtain⟨m,h1,h2⟩:=h
 exact⟨m,h1,h2.below hb⟩
theorem qbP.shape {W:World} {v:Value} {z:Int} (h:qbP W v z):∃(b:Bool) (a:Option Addr) (n c:Nat),v=.agg #[.bool b,.slice a n c]:=by
 obtain⟨m,rfl,am,bm,om,cm,n,M,rfl,Im,hMx⟩:=h
 exact⟨_,am,n,cm,rfl⟩
theorem qkg {W:World} {m:Value} {x:Nat} {neg:Bool} (h:MagAt W m x):qbP W (.agg #[.bool (neg && !decide (x=0)),m]) (if neg=true then -(x:Int) else x):=by
 have hb:(neg && !decide (x=0))=decide ((if neg=true then -(x:Int) else x)<0):=by
  cases neg with
  | false=>rw [Bool.false_and,if_neg (by simp)];exact (decide_eq_false (by omega)).symm
  | true =>
   rw [if_pos rfl,Bool.true_and]
   by_cases h0:x=0
   ·rw [decide_eq_true h0];exact (decide_eq_false (by omega)).symm
   ·rw [decide_eq_false h0];exact (decide_eq_true (by omega)).symm
 rw [hb]
 refine⟨m,rfl,?_⟩
 cases neg with
 | false=>simpa using h
 | true=>rw [if_pos rfl,qbg,qax];exact h
theorem qgg {W:World} {ao:Option Addr} {b off c n:Nat} {L:List Nat} (h:IsM W ao b off c n L):n=0↔mval L=0:=by rw [h.nrm.zero,h.len]
theorem qls {W:World} {ao:Option Addr} {b off c n g:Nat} {L:List Nat} {cs:Array Value} {t:TypeId} {fz:Nat×Nat} (h:IsM W ao b off c n L) (hg:W.heap[g]? = some (.cells cs t fz)) (hne:∀x∈cs.toList,∀d,x≠.int .i64 d) (h0:0<n):b≠g:=by
 rintro rfl
 have h1:=h.cell 0 h0
 unfold World.cell? at h1
 simp only [hg] at h1
 have h2:cs[off+0]? = some (.int .i64 ((dg L 0:Nat):Int)):=by
  simpa using h1
 exact hne _ (by rw [Array.mem_toList_iff];exact Array.mem_of_getElem? h2) _ rfl
theorem qcj {W W':World} {v:Value} {x g:Nat} {cs:Array Value} {t:TypeId} {fz:Nat×Nat} (h:MagAt W v x) (hk:W.grownBy W' (some g)) (hg:W.heap[g]? = some (.cells cs t fz)) (hne:∀x∈cs.toList,∀d,x≠.int .i64 d):MagAt W' v x:=by
 obtain⟨ao,b,off,c,n,L,rfl,h1,h2⟩:=h
 exact⟨ao,b,off,c,n,L,rfl,⟨h1.len,h1.cap,qdX hk h1.cells (fun h0=>qls h1 hg hne (by rw [←h1.len];exact h0)),h1.dig,h1.nrm⟩,h2⟩
theorem qc6 {W:World} {v:Value} {x g:Nat} {cs cs':Array Value} {t:TypeId} {fz:Nat×Nat} (h:MagAt W v x) (hg:W.heap[g]? = some (.cells cs t fz)) (hne:∀x∈cs.toList,∀d,x≠.int .i64 d):MagAt (W.setRow g cs') v x:=qcj h (qb9 W g cs') hg hne
theorem qko {W W':World} {v:Value} {z:Int} {g:Nat} {cs:Array Value} {t:TypeId} {fz:Nat×Nat} (h:qbP W v z) (hk:W.grownBy W' (some g)) (hg:W.heap[g]? = some (.cells cs t fz)) (hne:∀x∈cs.toList,∀d,x≠.int .i64 d):qbP W' v z:=by
 obtain⟨m,h1,h2⟩:=h
 exact⟨m,h1,qcj h2 hk hg hne⟩
theorem qbV {W:World} {v:Value} {z:Int} {g:Nat} {cs cs':Array Value} {t:TypeId} {fz:Nat×Nat} (h:qbP W v z) (hg:W.heap[g]? = some (.cells cs t fz)) (hne:∀x∈cs.toList,∀d,x≠.int .i64 d):qbP (W.setRow g cs') v z:=qko h (qb9 W g cs') hg hne
theorem nd2 (b:Bool) (a:Option Addr) (n c:Nat):∀x∈(#[.bool b,.slice a n c]:Array Value).toList,∀d,x≠.int .i64 d:=by
 intro x hx d
 rcases qaF.1 hx with rfl | hx
 ·intro h;cases h
 ·rw [qap.1 hx];intro h;cases h
theorem nd4 (b b':Bool) (a a':Option Addr) (n n' c c':Nat):∀x∈(#[.bool b,.slice a n c,.bool b',.slice a' n' c']:Array Value).toList,∀d,x≠.int .i64 d:=by
 intro x hx d
 rcases qaF.1 hx with rfl | hx
 ·intro h;cases h
 rcases qaF.1 hx with rfl | hx
 ·intro h;cases h
 rcases qaF.1 hx with rfl | hx
 ·intro h;cases h
 ·rw [qap.1 hx];intro h;cases h
theorem qbO (W:World) (g k:Nat) (v:Value):W.grownBy (W.setCell ⟨g,k,none⟩ v) (some g) :=
 ⟨rfl,rfl,rfl,by simp [World.setCell],fun i _ hr=>Below.heap_setCell _ _ _ _ (fun e=>hr (by rw [e]))⟩
end Go.Proofs.YtfminfgabiipjaaGreatDoor.p4
namespace Go.Proofs.YtfminfgabiipjaaGreatDoor.p4
open Go.RowKit
theorem qll {B:Nat} {b m:Value} (h:HiS B m):HiP B (.agg #[b,m]):=fun b' x e=>by
 simp only [qaQ,qaP,qaI,and_true] at e
 rw [←e.2];exact h
theorem qjC (x N:Nat) (neg:Bool) (vm:Value) (w:World) (hm:DigAt w vm x N) (hN:N≤17592186044416) :
  Calls Tryz.prog 167 #[.bool neg,vm] w fun e w'=>∃v,e=.returned v∧Below w.heap.size w w'∧qbP w' v (if neg=true then -(x:Int) else x)∧∀B,HiS B vm→HiP B v:=by
 have hc:=fun (W:World) (h:Below w.heap.size w W)=>qiO x N vm W (hm.below h) hN
 obtain⟨ao,b,off,c0,n0,L,rfl,_,_,_,_,_,_⟩:=hm
 have HC:=qH hc
 have hba:Below w.heap.size w (w.alloc (.cells #[.bool false,.slice none 0 0] 121)):=qB.alloc qN _
 have HA:=qH (qA hba (qM w (.cells #[.bool false,.slice none 0 0] 121) _ rfl))
 clear hc hba
 go_enter Tryz.func167,Tryz.ntmps167
 go_wp2_with (go_at_call 194;refine (HC.out _ HA.out.1).mono ?_)
 rintro e w1 ⟨u,rfl,rfl,⟨am,bm,om,c,n,M,rfl,Im,hx⟩,hh⟩
 have hn0:n=0↔x=0:=by rw [qgg Im,hx]
 have hM:MagAt (w.alloc (.cells #[.bool false,.slice none 0 0] 121)) (.slice am n c) x:=⟨am,bm,om,c,n,M,rfl,Im,hx⟩
 have hP:=fun b=>qbV (cs':=#[.bool b,.slice am n c]) (qkg (neg:=neg) hM) HA.out.2 (nd2 false none 0 0)
 have HP:=qH hP
 have Hb:=fun b=>qH (below_setRow HA.out.1 qN #[.bool b,.slice am n c])
 have Hn:=qH hn0
 have HH:=qH hh
 clear hP hn0 hM Im hx hh
 cases neg with
 | false =>
  go_wp2_with ((with_reducible refine wpList_store_row rfl 121 _ _ rfl (w.heap.size) #[.bool false,.slice am n c] ?_ ?_ 121 _ HA.out.2 2 ?_ ?_ ?_ ?_ ?_);(next=>rfl);(next=>rfl);(next=>kernel_rfl);(next=>rfl);(next=>rfl);(next=>rfl))
  refine bodyPost_ret (v:=.agg #[.bool false,.slice am n c]) (qbN rfl _ _ (w.heap.size) 121 _ _ rfl (setRow_heap _ _ _ _ _ _ HA.out.2) Tryz.underlying121 rfl 2 (by kernel_rfl) rfl) rfl ⟨_,rfl,(Hb false).out,?_,fun B h=>qll (HH.out B h)⟩
  exact HP.out false
 | true =>
  by_cases h0:n=0
  ·subst h0
   go_wp2_with ((with_reducible refine wpList_store_row rfl 121 _ _ rfl (w.heap.size) #[.bool false,.slice am 0 c] ?_ ?_ 121 _ HA.out.2 2 ?_ ?_ ?_ ?_ ?_);(next=>rfl);(next=>rfl);(next=>kernel_rfl);(next=>rfl);(next=>rfl);(next=>rfl))
   refine bodyPost_ret (v:=.agg #[.bool false,.slice am 0 c]) (qbN rfl _ _ (w.heap.size) 121 _ _ rfl (setRow_heap _ _ _ _ _ _ HA.out.2) Tryz.underlying121 rfl 2 (by kernel_rfl) rfl) rfl ⟨_,rfl,(Hb false).out,?_,fun B h=>qll (HH.out B h)⟩
   have hx0:x=0:=by simpa using Hn.out
   have:=HP.out false
   rwa [show (true && !decide (x=0))=false by rw [hx0];rfl] at this
  ·have hx1:¬x=0:=fun h=>h0 (Hn.out.2 h)
   have Hx:=qH hx1
   clear hx1
   have hni:0<n:=by omega
   clear h0
   go_wp2_with ((with_reducible refine wpList_store_row rfl 121 _ _ rfl (w.heap.size) #[.bool true,.slice am n c] ?_ ?_ 121 _ HA.out.2 2 ?_ ?_ ?_ ?_ ?_);(next=>rfl);(next=>rfl);(next=>kernel_rfl);(next=>rfl);(next=>rfl);(next=>rfl))
   refine bodyPost_ret (v:=.agg #[.bool true,.slice am n c]) (qbN rfl _ _ (w.heap.size) 121 _ _ rfl (setRow_heap _ _ _ _ _ _ HA.out.2) Tryz.underlying121 rfl 2 (by kernel_rfl) rfl) rfl ⟨_,rfl,(Hb true).out,?_,fun B h=>qll (HH.out B h)⟩
   have:=HP.out true
   rwa [show (true && !decide (x=0))=true by rw [decide_eq_false Hx.out];rfl] at this
theorem qdq (x N:Nat) (neg:Bool) (vm:Value) (w:World) (hm:DigAt w vm x N) (hN:N≤17592186044416) :
  Calls Tryz.prog 167 #[.bool neg,vm] w fun e w'=>∃v,e=.returned v∧Below w.heap.size w w'∧qbP w' v (if neg=true then -(x:Int) else x) :=
 (qjC x N neg vm w hm hN).mono fun _ _ ⟨v,h1,h2,h3,_⟩=>⟨v,h1,h2,h3⟩
theorem qhX (z:Int) (K:Nat) (hK:K≤17592186044416) (v:Value) (w:World) (hv:qbP w v z) (hz:Fit z.natAbs K) :
  Calls Tryz.prog 165 #[v] w fun e w'=>∃u,e=.returned u∧Below w.heap.size w w'∧qbP w' u (-z):=by
 obtain⟨m,rfl,hm⟩:=hv
 have hs:=fun (W:World) (h:Below w.heap.size w W)=>qdq z.natAbs K (!decide (z<0)) m W ((hm.below h).digs hz) hK
 have hz':(if (!decide (z<0))=true then -(z.natAbs:Int) else (z.natAbs:Int)) = -z:=by
  by_cases h:z<0
  ·rw [decide_eq_true h,if_neg (by decide)];omega
  ·rw [decide_eq_false h,if_pos (by decide)];omega
 rw [hz'] at hs
 have HS:=qH hs
 generalize decide (z<0)=b at *
 obtain⟨am,bm,om,cm,n,M,rfl,Im,hMx⟩:=hm
 clear hs hz' Im hMx hz
 obtain⟨W1,hW1⟩:∃W1,W1=(w.alloc (.cells #[.bool b,.slice am n cm] 121)).alloc (.cells #[.bool false,.slice none 0 0] 121):=⟨_,rfl⟩
 have hb1:Below w.heap.size w W1:=hW1▸qbI (qbI qB qN) qN
 have hr1:W1.heap[w.heap.size+1]? = some (.cells #[.bool false,.slice none 0 0] 121 (0,0)):=by rw [hW1];exact qM _ _ _ (by simp)
 go_enter Tryz.func165,Tryz.ntmps165
 go_wp2_with fail
 rw [←hW1]
 refine (HS.out _ hb1).mono ?_
 rintro e w2 ⟨u,rfl,hb9,hu9⟩
 have hrow9:=(hb9.block (w.heap.size+1) (qG hr1).1).trans hr1
 have hbw9:Below w.heap.size w w2:=hb1.trans (hb9.mono hb1.size)
 clear hW1 hb1 hr1
 obtain⟨b9,a9,n9,c9,rfl⟩:=hu9.shape
 have hvs:=qbV (cs':=#[.bool b9,.slice a9 n9 c9]) hu9 hrow9 (nd2 _ _ _ _)
 have HR:=qH (qA hrow9 (qA hbw9 (below_setRow hbw9 (show w.heap.size≤w.heap.size+1 by omega) #[.bool b9,.slice a9 n9 c9])))
 have HV:=qH hvs
 clear hrow9 hbw9 hvs hb9 hu9
 go_wp2_with ((with_reducible refine wpList_store_row rfl 121 _ _ rfl (w.heap.size+1) #[.bool b9,.slice a9 n9 c9] ?_ ?_ 121 _ HR.out.1 2 ?_ ?_ ?_ ?_ ?_);(next=>rfl);(next=>rfl);(next=>kernel_rfl);(next=>rfl);(next=>rfl);(next=>rfl))
 exact bodyPost_ret (v:=.agg #[.bool b9,.slice a9 n9 c9]) (qbN rfl _ _ (w.heap.size+1) 121 _ _ rfl (setRow_heap _ _ _ _ _ _ HR.out.1) Tryz.underlying121 rfl 2 (by kernel_rfl) rfl) rfl ⟨_,rfl,HR.out.2.2,HV.out⟩
structure IntInv (n m k:Nat) (S:List Nat):Prop where
 len:S.length=k
 dig:Dig S
 val:mval S+10000 ^ k*m=n
 fit:m<10000 ^ (5-k)
theorem IntInv.start {n:Nat} (h:n<100000000000000000000):IntInv n n 0 []:=⟨rfl,Dig.nil,by simp [mval],by simpa using h⟩
theorem IntInv.lt {n m k:Nat} {S:List Nat} (h:IntInv n m k S) (hk:k≤5) (h0:m≠0):k<5:=by
 rcases qbb k 5 with h1 | h1
 ·exact h1
 ·obtain rfl:k=5:=by omega
  have:=h.fit
  simp at this;omega
theorem IntInv.step {n m k:Nat} {S:List Nat} (h:IntInv n m k S) (hk:k<5):IntInv n (m / 10000) (k+1) (S++[m % 10000]):=by
 refine⟨by rw [qag,h.len];rfl,h.dig.snoc (qa9 _ (by decide)),?_,?_⟩
 ·rw [qcI,h.len,←h.val,qaA,Nat.add_assoc,qat,←qaX]
  congr 2
  exact Nat.mod_add_div _ _
 ·have h1:=h.fit
  obtain⟨j,hj⟩:∃j,5-k=j+1:=⟨4-k,by omega⟩
  rw [hj,qaA] at h1
  rw [show 5-(k+1)=j by omega]
  exact Nat.div_lt_of_lt_mul (by rw [qaw];exact h1)
theorem IntInv.done {n k:Nat} {S:List Nat} (h:IntInv n 0 k S):mval S=n:=by have:=h.val;simpa using this
theorem qiX (n:Int) (hn:n<0) (hr:-9223372036854775808≤n∧n≤9223372036854775807) (w:World) :
  Calls Tryz.prog 129 #[.int .i64 n] w fun e w'=>∃v,e=.returned v∧Below w.heap.size w w'∧qbP w' v n:=by
 obtain⟨W1,hW1⟩:∃W1,W1=w.alloc (.cells #[.bool false,.slice none 0 0] 121):=⟨_,rfl⟩
 have hb1:Below w.heap.size w W1:=hW1▸qbI qB qN
 have hr1:W1.heap[w.heap.size]? = some (.cells #[.bool false,.slice none 0 0] 121 (0,0)):=by rw [hW1];exact qM _ _ _ rfl
 obtain⟨N,hN⟩:∃N,n.natAbs=N:=⟨_,rfl⟩
 have HI:=qH (IntInv.start (n:=N) (by omega))
 have HN:=qH hN
 have HR:=qH (qA hb1 hr1)
 have hr2:=hr.1
 have hr3:=hr.2
 have hnb:decide (n<0)=true:=by exact decide_eq_true hn
 have hnb2:n<0:=by omega
 clear hN hb1 hr1 hr
 go_enter Tryz.func129,Tryz.ntmps129
 go_wp2_with fail
 rw [←hW1]
 clear hW1
 go_loopw [0,3,5] (fun x0 x3 x5 W=>∃(z:Int) (m k:Nat) (S:List Nat),x0=.int .i64 z∧z≤0∧-9223372036854775808≤z∧k≤5∧Hid (z.natAbs=m)∧Hid (IntInv N m k S)∧Hid (W.ownsRow W1.heap.size 3 1 x3 k (row64 S))∧Hid (Below W1.heap.size W1 W)) (fun x0 _ _ _=>(intOf x0).natAbs)
 case atStart=>exact⟨n,N,0,[],rfl,by omega,by omega,qam _,HN,HI,qH (qbt _ _ _ _),qH qB⟩
 case round =>
  obtain⟨z,m,k,S,rfl,hz1,hz2,hk,hm,hI,hO,hB⟩:=hrel
  have Hsz:=hB.out.size
  by_cases hz0:z=0
  ·subst hz0
   obtain rfl:0=m:=hm.out
   have hv:=hI.out.done
   have HD:=qH (qdc (N:=5) hO.out hI.out.dig hk)
   rw [hv] at HD
   have hm0:=qdq N 5 true _ _ HD.out (by decide)
   rw [show (if true=true then -(N:Int) else N)=n by rw [←HN.out];simp;omega] at hm0
   have HM:=qH hm0
   clear hv hm0
   go_wp2_with fail
   refine HM.out.mono ?_
   rintro e w2 ⟨u,rfl,hb9,hu9⟩
   have hBW:Below W1.heap.size W1 w2:=hB.out.trans (hb9.mono hB.out.size)
   have hrow9:=(hBW.block w.heap.size (qG HR.out.2).1).trans HR.out.2
   have hbw9:Below w.heap.size w w2:=HR.out.1.trans (hBW.mono HR.out.1.size)
   obtain⟨b9,a9,n9,c9,rfl⟩:=hu9.shape
   have hvs:=qbV (cs':=#[.bool b9,.slice a9 n9 c9]) hu9 hrow9 (nd2 _ _ _ _)
   have HR:=qH (qA hrow9 (qA hbw9 (below_setRow hbw9 qN #[.bool b9,.slice a9 n9 c9])))
   have HV:=qH hvs
   clear hrow9 hbw9 hvs hb9 hu9 hBW
   go_wp2_with ((with_reducible refine wpList_store_row rfl 121 _ _ rfl (w.heap.size) #[.bool b9,.slice a9 n9 c9] ?_ ?_ 121 _ HR.out.1 2 ?_ ?_ ?_ ?_ ?_);(next=>rfl);(next=>rfl);(next=>kernel_rfl);(next=>rfl);(next=>rfl);(next=>rfl))
   exact bodyPost_ret (v:=.agg #[.bool b9,.slice a9 n9 c9]) (qbN rfl _ _ (w.heap.size) 121 _ _ rfl (setRow_heap _ _ _ _ _ _ HR.out.1) Tryz.underlying121 rfl 2 (by kernel_rfl) rfl) rfl ⟨_,rfl,HR.out.2.2,HV.out⟩
  ·obtain⟨q,hq⟩:∃q,m / 10000=q:=⟨_,rfl⟩
   obtain⟨r,hrr⟩:∃r,m % 10000=r:=⟨_,rfl⟩
   have hm':=hm.out
   have hzm:z = -(m:Int):=by omega
   have t1:z.tmod 10000 = -(r:Int):=by rw [hzm,Int.neg_tmod,tmodB m r hrr]
   have t2:z.tdiv 10000 = -(q:Int):=by rw [hzm,Int.neg_tdiv,tdivB m q hq]
   have hk5:=hI.out.lt hk (by omega)
   have hst:=hI.out.step hk5
   rw [hq,hrr] at hst
   have Hst:=qH hst
   have hr4:r<10000:=by omega
   have hq4:q≤922337203685478:=by omega
   have Hq:=qH (show q<m by omega)
   have Hzm:=qH hzm
   have hz3:z<0:=by omega
   have hzb:(z != 0)=true:=by rw [bne_iff_ne];omega
   clear hst hq hrr hzm hm'
   by_cases hr0:r=0
   ·subst hr0
    go_wp2_with (first | (at_builtin;refine qck (d:=0) rfl _ _ rfl hB.out rfl hO.out rfl rfl (by omega) rfl ?_;intro v' w' ho' hb') | fail)
    go_roundw
    case rel=>exact⟨_,q,k+1,S++[0],rfl,by omega,by omega,by omega,qH (by omega),Hst,ho',hb'⟩
    case measure=>have:=Hq.out;have:=Hzm.out;simp [intOf];omega
   ·have hr5:-(r:Int)<0:=by omega
    have hr6:0<r:=by omega
    have hr7:- -(r:Int)=(r:Int):=by omega
    go_wp2_with (first | (at_builtin;refine qck (d:=r) rfl _ _ rfl hB.out rfl hO.out rfl rfl (by omega) rfl ?_;intro v' w' ho' hb') | fail)
    go_roundw
    case rel=>exact⟨_,q,k+1,S++[r],rfl,by omega,by omega,by omega,qH (by omega),Hst,ho',hb'⟩
    case measure=>have:=Hq.out;have:=Hzm.out;simp [intOf];omega
theorem qiY (n:Int) (hn:0≤n) (hr:-9223372036854775808≤n∧n≤9223372036854775807) (w:World) :
  Calls Tryz.prog 129 #[.int .i64 n] w fun e w'=>∃v,e=.returned v∧Below w.heap.size w w'∧qbP w' v n:=by
 obtain⟨W1,hW1⟩:∃W1,W1=w.alloc (.cells #[.bool false,.slice none 0 0] 121):=⟨_,rfl⟩
 have hb1:Below w.heap.size w W1:=hW1▸qbI qB qN
 have hr1:W1.heap[w.heap.size]? = some (.cells #[.bool false,.slice none 0 0] 121 (0,0)):=by rw [hW1];exact qM _ _ _ rfl
 obtain⟨N,hN⟩:∃N,n.natAbs=N:=⟨_,rfl⟩
 have HI:=qH (IntInv.start (n:=N) (by omega))
 have HN:=qH hN
 have HR:=qH (qA hb1 hr1)
 have hr2:=hr.1
 have hr3:=hr.2
 have hnb:decide (n<0)=false:=by exact decide_eq_false (by omega)
 have hnb2:¬n<0:=by omega
 clear hN hb1 hr1 hr
 go_enter Tryz.func129,Tryz.ntmps129
 go_wp2_with fail
 rw [←hW1]
 clear hW1
 go_loopw [0,3,5] (fun x0 x3 x5 W=>∃(z:Int) (m k:Nat) (S:List Nat),x0=.int .i64 z∧0≤z∧z≤9223372036854775807∧k≤5∧Hid (z.natAbs=m)∧Hid (IntInv N m k S)∧Hid (W.ownsRow W1.heap.size 3 1 x3 k (row64 S))∧Hid (Below W1.heap.size W1 W)) (fun x0 _ _ _=>(intOf x0).natAbs)
 case atStart=>exact⟨n,N,0,[],rfl,by omega,by omega,qam _,HN,HI,qH (qbt _ _ _ _),qH qB⟩
 case round =>
  obtain⟨z,m,k,S,rfl,hz1,hz2,hk,hm,hI,hO,hB⟩:=hrel
  have Hsz:=hB.out.size
  by_cases hz0:z=0
  ·subst hz0
   obtain rfl:0=m:=hm.out
   have hv:=hI.out.done
   have HD:=qH (qdc (N:=5) hO.out hI.out.dig hk)
   rw [hv] at HD
   have hm0:=qdq N 5 false _ _ HD.out (by decide)
   rw [show (if false=true then -(N:Int) else N)=n by rw [←HN.out];simp;omega] at hm0
   have HM:=qH hm0
   clear hv hm0
   go_wp2_with fail
   refine HM.out.mono ?_
   rintro e w2 ⟨u,rfl,hb9,hu9⟩
   have hBW:Below W1.heap.size W1 w2:=hB.out.trans (hb9.mono hB.out.size)
   have hrow9:=(hBW.block w.heap.size (qG HR.out.2).1).trans HR.out.2
   have hbw9:Below w.heap.size w w2:=HR.out.1.trans (hBW.mono HR.out.1.size)
   obtain⟨b9,a9,n9,c9,rfl⟩:=hu9.shape
   have hvs:=qbV (cs':=#[.bool b9,.slice a9 n9 c9]) hu9 hrow9 (nd2 _ _ _ _)
   have HR:=qH (qA hrow9 (qA hbw9 (below_setRow hbw9 qN #[.bool b9,.slice a9 n9 c9])))
   have HV:=qH hvs
   clear hrow9 hbw9 hvs hb9 hu9 hBW
   go_wp2_with ((with_reducible refine wpList_store_row rfl 121 _ _ rfl (w.heap.size) #[.bool b9,.slice a9 n9 c9] ?_ ?_ 121 _ HR.out.1 2 ?_ ?_ ?_ ?_ ?_);(next=>rfl);(next=>rfl);(next=>kernel_rfl);(next=>rfl);(next=>rfl);(next=>rfl))
   exact bodyPost_ret (v:=.agg #[.bool b9,.slice a9 n9 c9]) (qbN rfl _ _ (w.heap.size) 121 _ _ rfl (setRow_heap _ _ _ _ _ _ HR.out.1) Tryz.underlying121 rfl 2 (by kernel_rfl) rfl) rfl ⟨_,rfl,HR.out.2.2,HV.out⟩
  ·obtain⟨q,hq⟩:∃q,m / 10000=q:=⟨_,rfl⟩
   obtain⟨r,hrr⟩:∃r,m % 10000=r:=⟨_,rfl⟩
   obtain rfl:z=(m:Int):=by have:=hm.out;omega
   have t1:(m:Int).tmod 10000=(r:Int):=tmodB m r hrr
   have t2:(m:Int).tdiv 10000=(q:Int):=tdivB m q hq
   have t3:(m:Int) % 10000=r:=by omega
   have t4:(m:Int) / 10000=q:=by omega
   have hk5:=hI.out.lt hk (by omega)
   have hst:=hI.out.step hk5
   rw [hq,hrr] at hst
   have Hst:=qH hst
   have hr4:r<10000:=by omega
   have Hq:=qH (show q<m by omega)
   have hm0:0<m:=by omega
   have hzb:((m:Int) != 0)=true:=by rw [bne_iff_ne];omega
   have hr5:¬(r:Int)<0:=by omega
   clear hst hq hrr
   go_wp2_with (first | (at_builtin;refine qck (d:=r) rfl _ _ rfl hB.out rfl hO.out rfl rfl (by omega) rfl ?_;intro v' w' ho' hb') | fail)
   go_roundw
   case rel=>exact⟨_,q,k+1,S++[r],rfl,by omega,by omega,by omega,qH (by omega),Hst,ho',hb'⟩
   case measure=>have:=Hq.out;simp [intOf];omega
theorem qgC (n:Int) (hr:-9223372036854775808≤n∧n≤9223372036854775807) (w:World) :
  Calls Tryz.prog 129 #[.int .i64 n] w fun e w'=>∃v,e=.returned v∧Below w.heap.size w w'∧qbP w' v n:=by
 rcases Int.lt_or_le n 0 with h | h
 ·exact qiX n h hr w
 ·exact qiY n h hr w
theorem qgv (x y:Int) (K:Nat) (hK:K≤17592186000000) (v u:Value) (w:World) (hv:qbP w v x) (hu:qbP w u y) (hx:Fit x.natAbs K) (hy:Fit y.natAbs K) :
  Calls Tryz.prog 157 #[v,u] w fun e w'=>∃u,e=.returned u∧Below w.heap.size w w'∧qbP w' u ((x.natAbs.gcd y.natAbs:Nat):Int):=by
 obtain⟨m,rfl,hm⟩:=hv
 obtain⟨o,rfl,ho⟩:=hu
 generalize decide (x<0)=b0 at *
 generalize decide (y<0)=b1 at *
 have HM:=qH hm
 have HO:=qH ho
 obtain⟨a0,bm,om,c0,n0,M,rfl,Im,hMx⟩:=hm
 obtain⟨a1,bo,oo,c1,n1,O,rfl,Io,hOx⟩:=ho
 obtain⟨G,hG⟩:∃G,x.natAbs.gcd y.natAbs=G:=⟨_,rfl⟩
 rw [hG]
 have HF:=qH (qA hx (qA hy (qA hG hK)))
 clear Im hMx Io hOx hx hy hG hK
 obtain⟨W1,hW1⟩:∃W1,W1=((w.alloc (.cells #[.bool b0,.slice a0 n0 c0] 121)).alloc (.cells #[.bool b1,.slice a1 n1 c1] 121)).alloc (.cells #[.bool false,.slice none 0 0] 121):=⟨_,rfl⟩
 have hb1:Below w.heap.size w W1:=hW1▸qbI (qbI (qbI qB qN) qN) qN
 have hr0:W1.heap[w.heap.size]? = some (.cells #[.bool b0,.slice a0 n0 c0] 121 (0,0)):=by rw [hW1,qL _ _ _ (by simp only [qab];omega),qL _ _ _ (by simp only [qab];omega)];exact qM _ _ _ rfl
 have hr1:W1.heap[w.heap.size+1]? = some (.cells #[.bool b1,.slice a1 n1 c1] 121 (0,0)):=by rw [hW1,qL _ _ _ (by simp only [qab];omega)];exact qM _ _ _ (by simp)
 have hr2:W1.heap[w.heap.size+1+1]? = some (.cells #[.bool false,.slice none 0 0] 121 (0,0)):=by rw [hW1];exact qM _ _ _ (by simp)
 have k01:=cell_of_row W1 _ 1 _ _ _ hr0
 have k11:=cell_of_row W1 _ 1 _ _ _ hr1
 have HR:=qH (qA hb1 hr2)
 clear hr0 hr1 hr2 hb1
 go_enter Tryz.func157,Tryz.ntmps157
 go_wp2_with fail
 rw [←hW1]
 clear hW1
 go_quiet (fail)
 go_wp2_with fail
 have hgo:Hid (Below w.heap.size w (W1.drewN nq)∧(W1.drewN nq).heap[w.heap.size+1+1]? = some (.cells #[.bool false,.slice none 0 0] 121 (0,0))):=qH ⟨below_drewN HR.out.1 nq,HR.out.2⟩
 obtain⟨W2,hW2⟩:∃W2,W2=W1.drewN nq:=⟨_,rfl⟩
 rw [←hW2] at hgo
 rw [←hW2]
 clear hW2 k01 k11
 go_loopg [5,6,7,8] y.natAbs (fun b x5 x6 x7 x8 W=>∃a:Nat,Hid (MagAt W x5 a)∧Hid (MagAt W x6 b)∧Hid (Fit a K∧Fit b K∧a.gcd b=G)∧Hid (Below W2.heap.size W2 W))
 case atStart=>exact⟨x.natAbs,qH (HM.out.below hgo.out.1),qH (HO.out.below hgo.out.1),qH ⟨HF.out.1,HF.out.2.1,HF.out.2.2.1⟩,qH qB⟩
 case round =>
  obtain⟨a,ha,hb,hF,hB⟩:=hrel
  have HBo:=hb.out
  obtain⟨a6,b6,o6,c6,n6,B6,rfl,I6,hB6⟩:=HBo
  have hn6:=qgg I6
  rw [hB6] at hn6
  clear I6 hB6
  by_cases hg0:n6=0
  ·have hgk:=hn6.1 hg0
   subst hg0
   obtain rfl:gk=0:=hgk
   have ha2:MagAt wr u5 G:=by have h:=hF.out.2.2;rw [Nat.gcd_zero_right] at h;rw [←h];exact ha.out
   have HG:qbP wr (.agg #[.bool false,u5]) (G:Int):=⟨u5,by rw [decide_eq_false (by omega)],by simpa using ha2⟩
   obtain⟨a5,b5,o5,c5,n5,B5,rfl,_,_⟩:=ha2
   have hrow9:=(hB.out.block (w.heap.size+1+1) (qG hgo.out.2).1).trans hgo.out.2
   have hbw9:Below w.heap.size w wr:=hgo.out.1.trans (hB.out.mono hgo.out.1.size)
   have hvs:=qbV (cs':=#[.bool false,.slice a5 n5 c5]) HG hrow9 (nd2 _ _ _ _)
   have HR:=qH (qA hrow9 (qA hbw9 (below_setRow hbw9 (show w.heap.size≤w.heap.size+1+1 by omega) #[.bool false,.slice a5 n5 c5])))
   have HV:=qH hvs
   clear hrow9 hbw9 hvs HG hn6
   go_wp2_with ((with_reducible refine wpList_store_row rfl 121 _ _ rfl (w.heap.size+1+1) #[.bool false,.slice a5 n5 c5] ?_ ?_ 121 _ HR.out.1 2 ?_ ?_ ?_ ?_ ?_);(next=>rfl);(next=>rfl);(next=>kernel_rfl);(next=>rfl);(next=>rfl);(next=>rfl))
   exact bodyPost_ret (v:=.agg #[.bool false,.slice a5 n5 c5]) (qbN rfl _ _ (w.heap.size+1+1) 121 _ _ rfl (setRow_heap _ _ _ _ _ _ HR.out.1) Tryz.underlying121 rfl 2 (by kernel_rfl) rfl) rfl ⟨_,rfl,HR.out.2.2,HV.out⟩
  ·have hgk:gk≠0:=fun h=>hg0 (hn6.2 h)
   have hni:(0:Int)<n6:=by omega
   have HD:=qH (qiq a gk K (by have:=HF.out.2.2.2;omega) u5 _ wr ha.out hb.out hF.out.1 hF.out.2.1 (by omega))
   have Hg0:=qH hgk
   clear hn6 hg0 hgk
   go_wp2_with fail
   refine HD.out.mono ?_
   rintro e w2 ⟨q,r,rfl,hb2,hq,hr,_⟩
   have HV:=qH (qA hb2 hr)
   clear hb2 hr hq
   go_wp2_with fail
   go_roundg (a % gk)
   case measure=>exact qa9 _ (by have:=Hg0.out;omega)
   case rel=>exact⟨gk,qH (hb.out.below HV.out.1),qH HV.out.2,qH ⟨hF.out.2.1,hF.out.1.le (Nat.mod_le _ _),by rw [←hF.out.2.2,qbB gk,←Nat.gcd_rec,qbB]⟩,qH (hB.out.trans (HV.out.1.mono hB.out.size))⟩
end Go.Proofs.YtfminfgabiipjaaGreatDoor.p4
