/- Ad, part 49: Cz Sr Ss St -/
import Derived.Test.YtfminfgabiipjaaGreatDoorAd0
import Derived.Test.YtfminfgabiipjaaGreatDoorAd35
import Derived.Test.YtfminfgabiipjaaGreatDoorAd47
import Derived.Test.YtfminfgabiipjaaGreatDoorAd48
set_option maxRecDepth 100000
set_option maxHeartbeats 16000000
namespace Go.Proofs.YtfminfgabiipjaaGreatDoor
open Go.RowKit
theorem qkS {w1 w1' w2 w2':World} {t:Tbl} {c:Int} {e2:Ending} (h1:qf6 w1 (TOk t) 60 (.returned (.int .i64 c)) w1') (h2:(TOk t∧e2=.returned (.int .i64 0)∨¬TOk t∧e2=.returned (.int .i64 60))∧Below w2.heap.size w2 w2'):e2=.returned (.int .i64 c):=by
 obtain⟨d,e,h1,_⟩:=h1
 simp only [Ending.returned.injEq,Value.int.injEq,true_and] at e
 subst e
 rcases h1 with ⟨rfl,h1⟩ | ⟨rfl,h1⟩ <;> rcases h2.1 with ⟨h2,e2⟩ | ⟨h2,e2⟩
 ·exact e2
 ·exact absurd h1 h2
 ·exact absurd h2 h1
 ·exact e2
theorem qkq {w w':World} {t:Tbl} {e:Ending} (h:qeR w t e w'):∃k c:Int,e=.returned (.tuple #[.int .i64 k,.int .i64 c]):=by
 rcases h.1 with ⟨_,k1,_,e1⟩ | ⟨_,e1⟩
 ·exact⟨_,_,e1⟩
 ·exact⟨_,_,e1⟩
theorem rank_two {w1 w1' w2 w2':World} {t:Tbl} {e1 e2:Ending} (h1:qeR w1 t e1 w1') (h2:qeR w2 t e2 w2'):e2=e1:=by
 rcases h1.1 with ⟨a1,k1,b1,e1⟩ | ⟨a1,e1⟩ <;> rcases h2.1 with ⟨a2,k2,b2,e2⟩ | ⟨a2,e2⟩
 ·obtain rfl:k1=k2:=b1.uniq b2 (qcG.refl _ _ _)
  rw [e1,e2]
 ·exact absurd a1 a2
 ·exact absurd a2 a1
 ·rw [e1,e2]
def qhu (w1 w2:World) (e1 e2:Ending):Prop:=∃(L:List FT) (n:Nat) (c:Int) (a1:Option Addr) (g1 c1:Nat) (a2:Option Addr) (g2 c2:Nat),L.length=n∧n≤1000∧e1=.returned (.tuple #[.slice a1 n c1,.int .i64 c])∧FCells w1 a1 g1 0 L∧e2=.returned (.tuple #[.slice a2 n c2,.int .i64 c])∧FCells w2 a2 g2 0 L
theorem qk9 (w:World):FCells w none 0 0 []:=⟨fun h=>absurd h (by decide),fun k h=>absurd h (by simp)⟩
theorem qfh (w1 w2:World) (c:Int):qhu w1 w2 (.returned (.tuple #[.slice none 0 0,.int .i64 c])) (.returned (.tuple #[.slice none 0 0,.int .i64 c])) :=
 ⟨[],0,c,none,0,0,none,0,0,rfl,by decide,rfl,qk9 _,rfl,qk9 _⟩
theorem qiI {w1 w2:World} {n:Nat} {x y:Nat→Rat} {e1 e2:Ending} (hn:n≤1000) (h:∀i,i<n→x i=y i) (h1:Tells n x e1 w1) (h2:p4.qh0 n y e2 w2):qhu w1 w2 e1 e2:=by
 have hs:qbZ n x↔qbZ n y:=⟨fun k i hi=>h i hi▸k i hi,fun k i hi=>(h i hi).symm▸k i hi⟩
 rcases h1 with ⟨a1,g,rfl,f1⟩ | ⟨a1,rfl⟩ <;> rcases h2 with ⟨a2,ao,g2,c2,rfl,f2⟩ | ⟨a2,rfl⟩
 ·rw [←qeG h] at f2
  exact⟨told n x,n,0,_,g,n,ao,g2,c2,qbQ _ _,hn,rfl,f1,rfl,f2⟩
 ·exact absurd (hs.1 a1) a2
 ·exact absurd (hs.2 a2) a1
 ·exact qfh _ _ _
theorem qmg {w1 w1' w2 w2':World} {t:Tbl} {l:List FT} {e1 e2:Ending} (h1:qfB w1 t l e1 w1') (h2:p4.qjh w2 t l e2 w2'):qhu w1' w2' e1 e2:=by
 rcases h1.1 with ⟨a1,rfl⟩ | ⟨a1,b1,rfl⟩ | ⟨a1,b1,c1,rfl⟩ | ⟨a1,b1,c1,d1,h1⟩ <;> rcases h2.1 with ⟨a2,rfl⟩ | ⟨a2,b2,rfl⟩ | ⟨a2,b2,c2,rfl⟩ | ⟨a2,b2,c2,d2,h2⟩ <;>
  first
   | exact absurd a1 a2
   | exact absurd a2 a1
   | exact absurd b1 b2
   | exact absurd b2 b1
   | exact absurd (qA c2 d2) c1
   | exact absurd (qA c1 d1) c2
   | exact qfh _ _ _
   | skip
 rcases h1 with ⟨s1,rfl⟩ | ⟨s1,x,hx,t1⟩ <;> rcases h2 with ⟨s2,rfl⟩ | ⟨s2,y,hy,t2⟩
 ·exact qfh _ _ _
 ·exact absurd s1 s2
 ·exact absurd s2 s1
 ·exact qiI (by have:=a1.r2;omega) (qcq.uniq s1 hx hy) t1 t2
theorem qi8 {w w':World} {t:Tbl} {l:List FT} {e:Ending} (h:qfB w t l e w'):∃(a:Option Addr) (n d:Nat) (c:Int),e=.returned (.tuple #[.slice a n d,.int .i64 c]):=by
 rcases h.1 with ⟨_,e⟩ | ⟨_,_,e⟩ | ⟨_,_,_,e⟩ | ⟨_,_,_,_,⟨_,e⟩ | ⟨_,x,_,⟨_,g,e,_⟩ | ⟨_,e⟩⟩⟩ <;> exact⟨_,_,_,_,e⟩
instance stays_rawat {v:Value} {t:Tbl} {l u x:List FT}:Stays fun W=>RawAt W v t l u x:=⟨fun h hb=>h.below hb⟩
theorem RawAt.parts {W:World} {p0 p1 p2 p3:Option Addr} {m0 m1 m2 m3 k0 k1 k2 k3:Nat} {t:Tbl} {l u x:List FT} (h:RawAt W (.agg #[.slice p0 m0 k0,.slice p1 m1 k1,.slice p2 m2 k2,.slice p3 m3 k3]) t l u x) :
  ∃(b off b1 o1 b2 o2 b3 o3:Nat),TabAt W p0 b off t∧FCells W p1 b1 o1 l∧FCells W p2 b2 o2 u∧FCells W p3 b3 o3 x∧t.length=m0∧l.length=m1∧u.length=m2∧x.length=m3:=by
 obtain⟨a,b,off,c,a1,b1,o1,c1,a2,b2,o2,c2,a3,b3,o3,c3,e,_,hT,h1,h2,h3⟩:=h
 simp only [qaQ,qaP,qaI,qbh,and_true] at e
 obtain⟨⟨rfl,rfl,rfl⟩,⟨rfl,rfl,rfl⟩,⟨rfl,rfl,rfl⟩,⟨rfl,rfl,rfl⟩⟩:=e
 exact⟨b,off,b1,o1,b2,o2,b3,o3,hT,h1,h2,h3,rfl,rfl,rfl,rfl⟩
theorem RawAt.two {W:World} {p0 p1 p2 p3:Option Addr} {m0 m1 m2 m3 k0 k1 k2 k3:Nat} {t:Tbl} {l u x:List FT} (h:RawAt W (.agg #[.slice p0 m0 k0,.slice p1 m1 k1,.slice p2 m2 k2,.slice p3 m3 k3]) t l u x) :
  ∃(b off b1 o1:Nat),TabAt W p0 b off t∧FCells W p1 b1 o1 l:=by
 obtain⟨b,off,b1,o1,_,_,_,_,hT,h1,_⟩:=h.parts
 exact⟨b,off,b1,o1,hT,h1⟩
theorem RawOwn.two {W:World} {s0 s1:Option Addr} {m0 j0 m1 j1:Nat} {z2 z3:Value} {t:Tbl} {l u x:List FT} (h:RawOwn W (.slice s0 m0 j0) (.slice s1 m1 j1) z2 z3 t l u x):∃g g1,TabAt W s0 g 0 t∧FCells W s1 g1 0 l:=by
 obtain⟨a,g,c,a1,g1,c1,_,_,_,_,_,_,⟨e0,e1,_,_⟩,_,hT,h1,_⟩:=h.parts
 simp only [qbh] at e0 e1
 obtain⟨rfl,_,_⟩:=e0
 obtain⟨rfl,_,_⟩:=e1
 exact⟨g,g1,hT,h1⟩
theorem RawAt.slices {W:World} {v:Value} {t:Tbl} {l u x:List FT} (h:RawAt W v t l u x):∃(p0:Option Addr) (m0 k0:Nat) (p1:Option Addr) (m1 k1:Nat) (p2:Option Addr) (m2 k2:Nat) (p3:Option Addr) (m3 k3:Nat),v=.agg #[.slice p0 m0 k0,.slice p1 m1 k1,.slice p2 m2 k2,.slice p3 m3 k3]:=by
 obtain⟨a,_,_,c,a1,_,_,c1,a2,_,_,c2,a3,_,_,c3,e,_⟩:=h
 exact⟨_,_,_,_,_,_,_,_,_,_,_,_,e⟩
theorem Cut.small {t:Tbl} {b u x:List FT} (h:Cut t b u x):p4.qgr t:=fun i k hk=>by
 by_cases hi:i<t.length
 ·have:=(h.t2 i hi).2 k hk
  exact⟨by omega,by omega⟩
 ·rw [qaa,qa4 (by omega)] at hk
  exact absurd hk (by simp)
theorem Six.small {l:List FT} (h:Six l):p4.qgq l:=fun k hk=>by
 have:=h k hk
 exact⟨by omega,by omega⟩
theorem qi9 (hworks:∀W:World,HasT W→Calls Tryz.prog 10 #[] W fun e w'=>e=.returned (.bool true)∧Below W.heap.size W w')
  (v:Value) (t:Tbl) (l u x:List FT) (r c:Nat) (N:List Int) (D:List Nat) (vd:Value) (w:World) (hv:RawAt w v t l u x) (hd:qc2 w vd r c N D) (hP:HasT w) :
  Calls Tryz.prog 3 #[v,vd] w fun e w'=>e=.returned (.bool true)∧Below w.heap.size w w':=by
 have HW:=qH hworks
 have HA:=qH (fun (W:World) (h:Below w.heap.size w W)=>qkK v vd t l u x r c N D W (hv.below h) (hd.below h))
 have HP:=qH hP
 obtain⟨a,b,off,nn,cc,a',b',off',n',cc',rfl,_⟩:=hd
 obtain⟨y0,y1,y2,y3,rfl⟩:∃y0 y1 y2 y3,v=.agg #[y0,y1,y2,y3]:=by
  obtain⟨_,_,_,_,_,_,_,_,_,_,_,_,_,_,_,_,e,_⟩:=hv
  exact⟨_,_,_,_,e⟩
 clear hv hworks hP
 obtain⟨W1,hW1,K1⟩:=p4.kn2 w #[y0,y1,y2,y3] 25 #[.int .u8 (r:Int),.int .u8 (c:Int),.slice a nn cc,.slice a' n' cc'] 29
 go_enter Tryz.func3,Tryz.ntmps3
 go_wp2_with fail
 rw [←hW1]
 clear hW1
 refine (HW.out W1 (HP.out.below K1.out.1)).mono ?_
 rintro e w2 ⟨rfl,hb⟩
 have K2:=K1.below hb
 have r0:=K2.out.2.1
 have r1:=K2.out.2.2
 clear hb
 go_wp2_with (first | ((with_reducible refine qbJ rfl 25 _ rfl (w.heap.size) ?_ 25 #[y0,y1,y2,y3] _ r0 Tryz.underlying25 ?_ 4 ?_ ?_ ?_);(next=>rfl);(next=>rfl);(next=>kernel_rfl);(next=>rfl)) | ((with_reducible refine qbJ rfl 29 _ rfl (w.heap.size+1) ?_ 29 #[.int .u8 (r:Int),.int .u8 (c:Int),.slice a nn cc,.slice a' n' cc'] _ r1 Tryz.underlying29 ?_ 4 ?_ ?_ ?_);(next=>rfl);(next=>rfl);(next=>kernel_rfl);(next=>rfl)) | fail)
 refine (HA.out _ K2.out.1).mono ?_
 rintro e w3 ⟨g,rfl,hraw,hb⟩
 have H3:=qH (qA (K2.out.1.trans (hb.mono K2.out.1.size)) hraw)
 clear hb hraw r0 r1 K2 K1
 go_wp2_with fail
 go_loopw [5,6,7,8,9,10,11,12,13,14,15,22] (fun _ _ _ _ _ _ _ _ _ _ _ x22 W=>∃k:Nat,x22=.int .i64 k∧k≤4∧Hid (Below w3.heap.size w3 W)) (fun _ _ _ _ _ _ _ _ _ _ _ x22 _=>4-(intOf x22).toNat)
 case atStart=>exact⟨0,rfl,qam _,qH qB⟩
 case round =>
  obtain⟨k,rfl,hk,hB⟩:=hrel
  by_cases hk4:k<4
  ·have hki:(k:Int)<4:=by omega
   obtain⟨z0,z1,z2,z3,d0,d1,d2,d3,t,l,u,x,hraw,hcut⟩:=H3.out.2 k hk4
   obtain⟨p0,m0,k0,p1,m1,k1,p2,m2,k2,p3,m3,k3,e⟩:=hraw.slices
   simp only [qaQ,qaP,qaI,and_true] at e
   obtain⟨rfl,rfl,rfl,rfl⟩:=e
   replace d0:=(hB.out.cell (qac w3 _ d0)).trans d0
   replace d1:=(hB.out.cell (qac w3 _ d1)).trans d1
   replace d2:=(hB.out.cell (qac w3 _ d2)).trans d2
   replace d3:=(hB.out.cell (qac w3 _ d3)).trans d3
   have HR:=qH (qA (hraw.below hB.out) hcut)
   have HRaw:=qH hraw
   clear hraw hcut
   go_wp2_with (first | ((with_reducible refine qb1 rfl 25 _ _ rfl #[.slice none 0 0,.slice none 0 0,.slice none 0 0,.slice none 0 0] #[.slice p0 m0 k0,.slice p1 m1 k1,.slice p2 m2 k2,.slice p3 m3 k3] ?_ ?_ 4 ?_ ?_ ?_ ?_ ?_);(next=>rfl);(next=>rfl);(next=>kernel_rfl);(next=>rfl);(next=>rfl);(next=>rfl)) | fail)
   obtain⟨g6,hg6⟩:∃g,g=wr.heap.size:=⟨_,rfl⟩
   obtain⟨W5,hW5⟩:∃W5,W5=wr.alloc (.cells #[.slice p0 m0 k0,.slice p1 m1 k1,.slice p2 m2 k2,.slice p3 m3 k3] 25):=⟨_,rfl⟩
   have K5:Kn (fun W=>(Below w3.heap.size w3 W∧RawAt W (.agg #[.slice p0 m0 k0,.slice p1 m1 k1,.slice p2 m2 k2,.slice p3 m3 k3]) t l u x)∧W.heap[g6]? = some (.cells #[.slice p0 m0 k0,.slice p1 m1 k1,.slice p2 m2 k2,.slice p3 m3 k3] 25 (0,0))) W5:=by
    have hb5:Below wr.heap.size wr W5:=hW5▸qbI qB qN
    exact .of ⟨⟨hB.out.trans (hb5.mono hB.out.size),HR.out.1.below hb5⟩,by rw [hW5,hg6];exact heap_alloc_new wr _⟩
   have hg63:w3.heap.size≤g6:=by rw [hg6];exact hB.out.size
   rw [←hg6,←hW5]
   clear hW5 hg6 d0 d1 d2 d3
   obtain⟨b,off,b1,o1,b2,o2,b3,o3,hT0,_,_,_,em,_⟩:=K5.out.1.2.parts
   have hm0:m0≤42:=by rw [←em];exact HR.out.2.t1
   have hrl:∀i,i<m0→(t.getD i []).length≤11:=fun i hi=>(HR.out.2.t2 i (by omega)).1
   have HC1:=qH (fun (W:World) (h:Below W5.heap.size W5 W)=>qe3 p0 b off m0 k0 t W em (by omega) (fun i hi=>by have:=hrl i hi;omega) (hT0.tc.below h))
   have HC2:=qH (fun (W:World) (h:Below W5.heap.size W5 W)=>p4.qkC p0 b off m0 k0 t W em (by omega) (fun i hi=>by have:=hrl i hi;omega) HR.out.2.small (hT0.tc.below h))
   have l6:=(qG K5.out.2).1
   have q0:=rowC (B:=W5.heap.size) K5.out.2 0
   clear hT0 em hrl
   refine wp_region_held_drew (S:=fun W=>Below W5.heap.size W5 W) (by kernel_rfl) qB.drew (fun hS0=>?_)
   refine hT 0 (h:=hT 1 (h:=hT 3 (h:=hT 4 (h:=?_))))
   refine hC 2 (HC1.out _ hS0) (h:=?_)
   rintro e w6 h6
   obtain⟨c6,rfl,_,hb6⟩:=id h6
   refine⟨_,rfl,qbU hb6,hN (h:=?_)⟩
   refine hC 5 (HC2.out _ (qbU hb6)) (h:=?_)
   rintro e w7 h7
   obtain rfl:=qkS h6 h7
   have hb7:Below W5.heap.size W5 w7:=(qbU hb6).trans (h7.2.mono (qbU hb6).size)
   have hcc:(c6 != c6)=false:=by simp
   refine⟨_,rfl,hb7,hN (h:=?_)⟩
   refine hT 6 (hS:=hb7) (h:=?_)
   refine wpAnyH_done (by kernel_rfl) ?_ _
   have K7:=K5.below hb7
   clear h6 h7 hb6 hb7 hS0 q0 l6 K5 HC1 HC2 hm0
   go_upto_if 35 with fail
   clear hcc
   go_cut [] (fun W=>∃(p0:Option Addr) (m0 k0:Nat) (p1:Option Addr) (m1 k1:Nat) (p2:Option Addr) (m2 k2:Nat) (p3:Option Addr) (m3 k3:Nat) (t:Tbl) (l u x:List FT),Hid (Cut t l u x)∧Kn (fun W=>(Below w3.heap.size w3 W∧RawAt W (.agg #[.slice p0 m0 k0,.slice p1 m1 k1,.slice p2 m2 k2,.slice p3 m3 k3]) t l u x)∧W.heap[g6]? = some (.cells #[.slice p0 m0 k0,.slice p1 m1 k1,.slice p2 m2 k2,.slice p3 m3 k3] 25 (0,0))) W)
   case first =>
    by_cases hk0:k=0
    ·subst hk0
     have r6:=K7.out.2
     go_wp2_with (first | ((with_reducible refine qbJ rfl 25 _ rfl (g6) ?_ 25 #[.slice p0 m0 k0,.slice p1 m1 k1,.slice p2 m2 k2,.slice p3 m3 k3] _ r6 Tryz.underlying25 ?_ 4 ?_ ?_ ?_);(next=>rfl);(next=>rfl);(next=>kernel_rfl);(next=>rfl)) | fail)
     refine (qla _ t l u x w7 K7.out.1.2 HR.out.2).mono ?_
     rintro e w8 ⟨r8,t8,l8,u8,x8,rfl,hraw,hcut,hb8,hor⟩
     obtain⟨s0,n0,j0,s1,n1,j1,s2,n2,j2,s3,n3,j3,rfl⟩:=hraw.slices
     have K8:=(K7.below hb8).also (q:=fun W=>RawAt W (.agg #[.slice s0 n0 j0,.slice s1 n1 j1,.slice s2 n2 j2,.slice s3 n3 j3]) t8 l8 u8 x8) hraw
     have r8:=K8.out.1.2
     have HCt:=qH (qA hcut hor)
     clear hraw hcut hb8 r6 hor
     go_wp2_with (first | ((with_reducible refine wpList_store_row rfl 25 _ _ rfl (g6) #[.slice s0 n0 j0,.slice s1 n1 j1,.slice s2 n2 j2,.slice s3 n3 j3] ?_ ?_ 25 _ r8 4 ?_ ?_ ?_ ?_ ?_);(next=>rfl);(next=>rfl);(next=>kernel_rfl);(next=>rfl);(next=>rfl);(next=>rfl)) | fail)
     go_meet
     have hbs:Below w3.heap.size w3 (w8.setRow g6 #[.slice s0 n0 j0,.slice s1 n1 j1,.slice s2 n2 j2,.slice s3 n3 j3]):=below_setRow K8.out.1.1.1 hg63 _
     have hfin:RawAt (w8.setRow g6 #[.slice s0 n0 j0,.slice s1 n1 j1,.slice s2 n2 j2,.slice s3 n3 j3]) (.agg #[.slice s0 n0 j0,.slice s1 n1 j1,.slice s2 n2 j2,.slice s3 n3 j3]) t8 l8 u8 x8:=by
      rcases HCt.out.2 with ⟨e1,rfl,rfl,rfl,rfl⟩ | ⟨B,vs,z0,z1,z2,z3,e1,hrw⟩
      ·rw [e1];exact HRaw.out.below hbs
      ·simp only [qaQ,qaP,qaI,and_true] at e1
       obtain⟨rfl,rfl,rfl,rfl⟩:=e1
       exact K8.out.2.keepT hrw (qb9 _ _ _) r8 (fun y hy=>by
        simp at hy
        rcases hy with rfl | rfl | rfl | rfl <;> exact⟨_,_,_,rfl⟩)
     exact⟨s0,n0,j0,s1,n1,j1,s2,n2,j2,s3,n3,j3,t8,l8,u8,x8,qH HCt.out.1,.of ⟨⟨hbs,hfin⟩,setRow_heap _ _ _ _ _ _ r8⟩⟩
    ·have hk0i:((k:Int) == 0)=false:=by rw [beq_eq_false_iff_ne];omega
     go_wp2_with fail
     go_meet
     exact⟨p0,m0,k0,p1,m1,k1,p2,m2,k2,p3,m3,k3,t,l,u,x,qH HR.out.2,K7⟩
   case rest =>
    clear K7 HR HRaw
    obtain⟨p0,m0,k0,p1,m1,k1,p2,m2,k2,p3,m3,k3,t,l,u,x,HR,K7⟩:=hcut
    have r6:=K7.out.2
    go_wp2_with (first | ((with_reducible refine qbJ rfl 25 _ rfl (g6) ?_ 25 #[.slice p0 m0 k0,.slice p1 m1 k1,.slice p2 m2 k2,.slice p3 m3 k3] _ r6 Tryz.underlying25 ?_ 4 ?_ ?_ ?_);(next=>rfl);(next=>rfl);(next=>kernel_rfl);(next=>rfl)) | fail)
    refine (qlL _ t l u x wc K7.out.1.2).mono ?_
    rintro e w8 ⟨z0,z1,z2,z3,rfl,hown,hb⟩
    rw [cutT_id HR.out.t1 HR.out.t2,qhw HR.out.b1 HR.out.b2,qhw HR.out.u1 HR.out.u2,qhw HR.out.x1 HR.out.x2] at hown
    obtain⟨b,off,b1,o1,b2,o2,b3,o3,_,_,_,_,em,en,eu,ex⟩:=K7.out.1.2.parts
    obtain⟨s0,_,j0,s1,_,j1,s2,_,j2,s3,_,j3,⟨rfl,rfl,rfl,rfl⟩,_⟩:=hown.parts
    rw [em,en,eu,ex] at hown ⊢
    have K8:=(K7.below hb).also (q:=fun W=>RawOwn W (.slice s0 m0 j0) (.slice s1 m1 j1) (.slice s2 m2 j2) (.slice s3 m3 j3) t l u x) hown
    obtain⟨g7,hg7⟩:∃g,g=w8.heap.size:=⟨_,rfl⟩
    obtain⟨W9,hW9⟩:∃W9,W9=w8.alloc (.cells #[.slice s0 m0 j0,.slice s1 m1 j1,.slice s2 m2 j2,.slice s3 m3 j3] 25):=⟨_,rfl⟩
    have K9:Kn (fun W=>(((Below w3.heap.size w3 W∧RawAt W (.agg #[.slice p0 m0 k0,.slice p1 m1 k1,.slice p2 m2 k2,.slice p3 m3 k3]) t l u x)∧W.heap[g6]? = some (.cells #[.slice p0 m0 k0,.slice p1 m1 k1,.slice p2 m2 k2,.slice p3 m3 k3] 25 (0,0)))∧RawOwn W (.slice s0 m0 j0) (.slice s1 m1 j1) (.slice s2 m2 j2) (.slice s3 m3 j3) t l u x)∧W.heap[g7]? = some (.cells #[.slice s0 m0 j0,.slice s1 m1 j1,.slice s2 m2 j2,.slice s3 m3 j3] 25 (0,0))) W9 :=
     K8.on (hW9▸qbI qB qN) (by rw [hW9,hg7];exact heap_alloc_new w8 _)
    have HM:=qH (qA em (qA en (qA (show m0≤42 by rw [←em];exact HR.out.t1) (qA (show m1≤42 by rw [←en];exact HR.out.b1) (fun i (hi:i<m0)=>(HR.out.t2 i (by omega)).1)))))
    clear hown hb r6 em en eu ex K7 K8
    go_upto_region 11 with (first | ((with_reducible refine qb1 rfl 25 _ _ rfl #[.slice none 0 0,.slice none 0 0,.slice none 0 0,.slice none 0 0] #[.slice s0 m0 j0,.slice s1 m1 j1,.slice s2 m2 j2,.slice s3 m3 j3] ?_ ?_ 4 ?_ ?_ ?_ ?_ ?_);(next=>rfl);(next=>rfl);(next=>kernel_rfl);(next=>rfl);(next=>rfl);(next=>rfl)) | fail)
    rw [←hg7,←hW9]
    clear hW9 hg7
    have d0:=cell_of_row _ _ 0 _ _ _ K9.out.1.1.2
    go_wp2_with fail
    obtain⟨b,off,b1,o1,hT0,hF1⟩:=K9.out.1.1.1.2.two
    refine (qiv p0 b off m0 k0 t _ HM.out.1 (by have:=HM.out.2.2.1;omega) (fun i hi=>by have:=HM.out.2.2.2.2 i hi;omega) hT0.tc).mono ?_
    rintro e w10 h10
    obtain⟨kr,cr,rfl⟩:=qkq h10
    have KA:=K9.below h10.2
    have H10:=qH h10
    clear h10 d0 K9 hT0 hF1
    have d0:=cell_of_row _ _ 0 _ _ _ KA.out.1.1.2
    go_wp2_with fail
    obtain⟨b,off,b1,o1,hT0,hF1⟩:=KA.out.1.1.1.2.two
    refine (p4.ql4 p0 b off m0 k0 t _ HM.out.1 (by have:=HM.out.2.2.1;omega) (fun i hi=>by have:=HM.out.2.2.2.2 i hi;omega) HR.out.small hT0.tc).mono ?_
    rintro e w11 h11
    obtain rfl:=rank_two H10.out h11
    have KB:=KA.below h11.2
    clear h11 d0 KA H10 hT0 hF1
    have d0:=cell_of_row _ _ 0 _ _ _ KB.out.1.1.2
    have d1:=cell_of_row _ _ 1 _ _ _ KB.out.1.1.2
    go_wp2_with fail
    obtain⟨b,off,b1,o1,hT0,hF1⟩:=KB.out.1.1.1.2.two
    refine (qfQ p0 b off m0 k0 t p1 b1 o1 m1 k1 l _ HM.out.1 (by have:=HM.out.2.2.1;omega) (fun i hi=>by have:=HM.out.2.2.2.2 i hi;omega) hT0.tc HM.out.2.1 (by have:=HM.out.2.2.2.1;omega) hF1 (HP.out.below (H3.out.1.trans (KB.out.1.1.1.1.mono H3.out.1.size)))).mono ?_
    rintro e w12 h12
    obtain⟨sa,sn,sc,se,rfl⟩:=qi8 h12
    have KC:=KB.below h12.2
    have H12:=qH h12
    clear h12 d0 d1 KB hT0 hF1
    have d0:=cell_of_row _ _ 0 _ _ _ KC.out.1.1.2
    have d1:=cell_of_row _ _ 1 _ _ _ KC.out.1.1.2
    go_wp2_with fail
    obtain⟨b,off,b1,o1,hT0,hF1⟩:=KC.out.1.1.1.2.two
    refine (p4.qkw p0 b off m0 k0 t p1 b1 o1 m1 k1 l _ HM.out.1 (by have:=HM.out.2.2.1;omega) (fun i hi=>by have:=HM.out.2.2.2.2 i hi;omega) HR.out.small hT0.tc HM.out.2.1 (by have:=HM.out.2.2.2.1;omega) HR.out.b2.small hF1).mono ?_
    rintro e w13 h13
    obtain⟨L,n,c,a1,g1,c1,a2,g2,c2,hL,hn,e1,f1,rfl,f2⟩:=qmg H12.out h13
    simp only [Ending.returned.injEq,Value.tuple.injEq,qaP,qaI,qbh,Value.int.injEq,true_and,and_true] at e1
    obtain⟨⟨rfl,rfl,rfl⟩,rfl⟩:=e1
    have KD:=KC.below h13.2
    have HS:=qH (qfs sa g1 0 sn sc L a2 g2 0 sn c2 L w13 hL (by omega) (f1.below h13.2) hL (by omega) f2)
    clear h13 d0 d1 KC hT0 hF1 H12 f1 f2
    have hkk:(kr != kr)=false:=by simp
    have hcr:(cr != cr)=false:=by simp
    have hse:(se != se)=false:=by simp
    go_wp2_with fail
    refine HS.out.mono ?_
    rintro e w14 ⟨ok,rfl,hok,hb⟩
    obtain rfl:=hok.2 rfl
    have KE:=KD.below hb
    clear hok hb KD HS hL hn
    have d0:=cell_of_row _ _ 0 _ _ _ KE.out.1.1.2
    have d1:=cell_of_row _ _ 0 _ _ _ KE.out.2
    go_wp2_with fail
    obtain⟨b,off,b1,o1,hT0,hF1⟩:=KE.out.1.1.1.2.two
    obtain⟨gq,gq1,hT1,hG1⟩:=KE.out.1.2.two
    refine (same_tab s0 gq 0 m0 j0 t p0 b off k0 _ HM.out.1 (by have:=HM.out.2.2.1;omega) (fun i hi=>by have:=HM.out.2.2.2.2 i hi;omega) hT1.tc hT0.tc).mono ?_
    rintro e w15 ⟨rfl,hb⟩
    have KF:=KE.below hb
    have HS:=qH (fun (W:World) (h:Below w15.heap.size w15 W)=>qfs s1 gq1 0 m1 j1 l p1 b1 o1 m1 k1 l W HM.out.2.1 (by have:=HM.out.2.2.2.1;omega) ((hG1.below hb).below h) HM.out.2.1 (by have:=HM.out.2.2.2.1;omega) ((hF1.below hb).below h))
    clear d0 d1 hb KE hT0 hF1 hT1 hG1
    have d0:=cell_of_row _ _ 1 _ _ _ KF.out.1.1.2
    have d1:=cell_of_row _ _ 1 _ _ _ KF.out.2
    go_wp2_with fail
    refine (HS.out _ qB).mono ?_
    rintro e w16 ⟨ok,rfl,hok,hb⟩
    obtain rfl:=hok.2 rfl
    have KG:=KF.below hb
    clear hok hb KF HS d0 d1
    go_wp2_with fail
    go_roundw
    case rel=>exact⟨k+1,by go_num,hk4,qH KG.out.1.1.1.1⟩
    case measure=>simp [intOf];omega
  ·obtain rfl:k=4:=by omega
   go_wp2_with fail
   go_ret
   exact⟨rfl,H3.out.1.trans (hB.out.mono H3.out.1.size)⟩
end Go.Proofs.YtfminfgabiipjaaGreatDoor
namespace Go.Proofs.YtfminfgabiipjaaGreatDoor.p4
open Go.RowKit
def QBlk (W:World) (g:Nat) (q:Rat):Prop:=∃u:QV,W.heap[g]? = some (.cells #[.bool u.1,.slice u.2.1.1 u.2.1.2.1 u.2.1.2.2,.bool false,.slice u.2.2.1 u.2.2.2.1 u.2.2.2.2] 123 (0,0))∧qbK W (qagg u) q
instance stays_qblk {g:Nat} {q:Rat}:Stays fun W=>QBlk W g q:=⟨fun⟨u,h1,h2⟩ hb=>⟨u,(hb.block g (qG h1).1).trans h1,h2.below hb⟩⟩
theorem QBlk.put {W:World} {g:Nat} {p q:Rat} {u:QV} (h:QBlk W g p) (hu:qbK W (qagg u) q):QBlk (W.setRow g #[.bool u.1,.slice u.2.1.1 u.2.1.2.1 u.2.1.2.2,.bool false,.slice u.2.2.1 u.2.2.2.1 u.2.2.2.2]) g q:=by
 obtain⟨x,h1,_⟩:=h
 exact⟨u,setRow_heap _ _ _ _ _ _ h1,qco hu h1 (nd4 _ _ _ _ _ _ _ _)⟩
theorem QBlk.new {W:World} {q:Rat} {u:QV} (hu:qbK W (qagg u) q):QBlk (W.alloc (.cells #[.bool u.1,.slice u.2.1.1 u.2.1.2.1 u.2.1.2.2,.bool false,.slice u.2.2.1 u.2.2.2.1 u.2.2.2.2] 123)) W.heap.size q :=
 ⟨u,heap_alloc_new W _,hu.below (qbI qB qN)⟩
theorem qfR {n K:Nat} {f:Nat→Rat} (h:∀i,i<n→RFit (f i) K):RFit (sumQ n f) (n*(K+1)+1):=by
 induction n with
 | zero=>exact⟨by rw [Nat.zero_mul];show 0<10000 ^ (0+1);decide,by rw [Nat.zero_mul];show 1<10000 ^ (0+1);decide⟩
 | succ n ih =>
  have h1:=(ih fun i hi=>h i (by omega)).addR (h n (by omega))
  exact h1.mono (by rw [Nat.succ_mul];omega)
theorem dot_any (g1 g2 n c1 c2 K J:Nat) (f1 f2:Nat→Rat) (w:World) (hn:n≤1000) (hK:n*(K+J+1)+K+J+2≤17592186000000) (h1:QRow w g1 n f1) (h2:QRow w g2 n f2) (k1:∀i,i<n→RFit (f1 i) K) (k2:∀i,i<n→RFit (f2 i) J) :
  Calls Tryz.prog 80 #[.slice (some ⟨g1,0,none⟩) n c1,.slice (some ⟨g2,0,none⟩) n c2] w fun e w'=>∃r,e=.returned r∧Below w.heap.size w w'∧qbK w' r (sumQ n fun i=>f1 i*f2 i):=by
 have HR:=qH (qA h1 (qA h2 (qA k1 k2)))
 have HK:=qH hK
 clear h1 h2 k1 k2 hK
 obtain⟨W1,hW1⟩:∃W1,W1=w.alloc (.cells #[.bool false,.slice none 0 0,.bool false,.slice none 0 0] 123):=⟨_,rfl⟩
 have K1:Kn (fun W=>Below w.heap.size w W∧W.heap[w.heap.size]? = some (.cells #[.bool false,.slice none 0 0,.bool false,.slice none 0 0] 123 (0,0))) W1:=.of ⟨hW1▸qbI qB qN,hW1▸qM _ _ _ rfl⟩
 have hs1:W1.heap.size=w.heap.size+1:=by rw [hW1,qab]
 have HS:=qH hs1
 clear hs1
 go_enter Tryz.func80,Tryz.ntmps80
 go_wp2_with fail
 rw [←hW1]
 clear hW1
 refine (qfo 0 1 (by decide) (by decide) (by decide) _).mono ?_
 rintro e w2 ⟨v,rfl,hb,hv⟩
 obtain⟨u,rfl⟩:=hv.qv
 have K2:=(K1.below hb).also (q:=fun W=>W1.heap.size≤W.heap.size) hb.size
 obtain⟨g5,hg5⟩:∃g,g=w2.heap.size:=⟨_,rfl⟩
 obtain⟨W3,hW3⟩:∃W3,W3=w2.alloc (.cells #[.bool u.1,.slice u.2.1.1 u.2.1.2.1 u.2.1.2.2,.bool false,.slice u.2.2.1 u.2.2.2.1 u.2.2.2.2] 123):=⟨_,rfl⟩
 have hlt:w.heap.size<g5:=by have:=K2.out.2;have:=HS.out;omega
 have K3:Kn (fun W=>(Below w.heap.size w W∧W.heap[w.heap.size]? = some (.cells #[.bool false,.slice none 0 0,.bool false,.slice none 0 0] 123 (0,0)))∧QBlk W g5 (sumQ 0 fun i=>f1 i*f2 i)) W3:=by
  rw [hW3,hg5]
  have hbn:Below w2.heap.size w2 (w2.alloc (.cells #[.bool u.1,.slice u.2.1.1 u.2.1.2.1 u.2.1.2.2,.bool false,.slice u.2.2.1 u.2.2.2.1 u.2.2.2.2] 123)):=qbI qB qN
  have hz:qbK w2 (qagg u) 0:=hv
  exact .of ⟨⟨K2.out.1.1.trans (hbn.mono K2.out.1.1.size),(hbn.block _ (qG K2.out.1.2).1).trans K2.out.1.2⟩,QBlk.new hz⟩
 clear hb hv K2 K1
 go_wp2_with (first | ((with_reducible refine qb1 rfl 123 _ _ rfl #[.bool false,.slice none 0 0,.bool false,.slice none 0 0] #[.bool u.1,.slice u.2.1.1 u.2.1.2.1 u.2.1.2.2,.bool false,.slice u.2.2.1 u.2.2.2.1 u.2.2.2.2] ?_ ?_ 4 ?_ ?_ ?_ ?_ ?_);(next=>rfl);(next=>rfl);(next=>kernel_rfl);(next=>rfl);(next=>rfl);(next=>rfl)) | fail)
 rw [←hg5,←hW3]
 clear hW3 hg5
 go_loopw [6] (fun x6 W=>∃k:Nat,x6=.int .i64 k∧k≤n∧Kn (fun W=>(Below w.heap.size w W∧W.heap[w.heap.size]? = some (.cells #[.bool false,.slice none 0 0,.bool false,.slice none 0 0] 123 (0,0)))∧QBlk W g5 (sumQ k fun i=>f1 i*f2 i)) W) (fun x6 _=>n-(intOf x6).toNat)
 case atStart=>exact⟨0,rfl,qam _,K3⟩
 case round =>
  obtain⟨k,rfl,hk,K4⟩:=hrel
  obtain⟨u5,hr5,hz5⟩:=K4.out.2
  by_cases hkn:k<n
  ·have hki:(k:Int)<n:=by omega
   have R1:=HR.out.1.below K4.out.1.1
   have R2:=HR.out.2.1.below K4.out.1.1
   obtain⟨ua,ha,a0,a1,a2,a3⟩:=R1.cells k hkn
   obtain⟨ub,hb,b0,b1,b2,b3⟩:=R2.cells k hkn
   have l1:g1≠g5:=by have:=HR.out.1.lt;omega
   have l2:g2≠g5:=by have:=HR.out.2.1.lt;omega
   have nx:∀{g:Nat},g≠g5→some g≠some g5:=fun h e=>h (qah e)
   have p0:∀W,wr.grownBy W (some g5)→W.cell? ⟨g1,k*4,none⟩=some (.bool ua.1):=fun W h=>h.cell a0 (nx l1)
   have p1:∀W,wr.grownBy W (some g5)→W.cell? ⟨g1,k*4+1,none⟩=some (.slice ua.2.1.1 ua.2.1.2.1 ua.2.1.2.2):=fun W h=>h.cell a1 (nx l1)
   have p2:∀W,wr.grownBy W (some g5)→W.cell? ⟨g1,k*4+2,none⟩=some (.bool false):=fun W h=>h.cell a2 (nx l1)
   have p3:∀W,wr.grownBy W (some g5)→W.cell? ⟨g1,k*4+3,none⟩=some (.slice ua.2.2.1 ua.2.2.2.1 ua.2.2.2.2):=fun W h=>h.cell a3 (nx l1)
   have q0:∀W,wr.grownBy W (some g5)→W.cell? ⟨g2,k*4,none⟩=some (.bool ub.1):=fun W h=>h.cell b0 (nx l2)
   have q1:∀W,wr.grownBy W (some g5)→W.cell? ⟨g2,k*4+1,none⟩=some (.slice ub.2.1.1 ub.2.1.2.1 ub.2.1.2.2):=fun W h=>h.cell b1 (nx l2)
   have q2:∀W,wr.grownBy W (some g5)→W.cell? ⟨g2,k*4+2,none⟩=some (.bool false):=fun W h=>h.cell b2 (nx l2)
   have q3:∀W,wr.grownBy W (some g5)→W.cell? ⟨g2,k*4+3,none⟩=some (.slice ub.2.2.1 ub.2.2.2.1 ub.2.2.2.2):=fun W h=>h.cell b3 (nx l2)
   have HT:=qH (fun (W:World) (h:Below wr.heap.size wr W)=>qdv (f1 k) (f2 k) K J (by have:=HK.out;omega) (qagg ua) (qagg ub) W (ha.below h) (hb.below h) (HR.out.2.2.1 k hkn) (HR.out.2.2.2 k hkn))
   have hfs:RFit (sumQ k fun i=>f1 i*f2 i) (k*(K+J+1)+1):=qfR fun i hi=>(HR.out.2.2.1 i (by omega)).mulR (HR.out.2.2.2 i (by omega))
   have hfit:k*(K+J+1)+1+(K+J)+1≤17592186000000:=by
    have h1:=HK.out
    have h2:k*(K+J+1)≤n*(K+J+1):=qaR _ (by omega)
    omega
   have HP:=qH (fun (W:World) (x:Value) (h:Below wr.heap.size wr W) (hx:qbK W x (f1 k*f2 k))=>qfr (sumQ k fun i=>f1 i*f2 i) (f1 k*f2 k) _ (K+J) hfit (qagg u5) x W (hz5.below h) hx hfs ((HR.out.2.2.1 k hkn).mulR (HR.out.2.2.2 k hkn)))
   clear ha hb hz5 hfs hfit a0 a1 a2 a3 b0 b1 b2 b3 R1 R2
   go_wp2_with fail
   refine wp_region_held_drew (S:=fun W=>wr.grownBy W (some g5)) (by kernel_rfl) (qbR (qb3 _ _) qB.drew) (fun hS0=>?_)
   refine hT 1 (h:=hT 2 (h:=hT 3 (h:=hT 4 (h:=hT 5 (h:=hT 6 (h:=hT 7 (h:=hT 8 (h:=?_))))))))
   refine gr [(0,14),(9,23),(10,24)] [(10,[0,9])] [1,2,3,4,5,6,7,8] [0,9,10] [] 11 12 (fl2 [(0,fun x _=>x=qagg u5),(9,fun x W=>qbK W x (f1 k*f2 k)),(10,fun x W=>qbK W x ((sumQ k fun i=>f1 i*f2 i)+f1 k*f2 k))]) _ 1
    (hS:=fun w' h=>qbR hS0 h) (hstep:=⟨⟨_,rfl,fun v w3 hb hF K hK=>?_⟩,⟨_,rfl,fun v w3 hb hF K hK=>?_⟩,⟨_,rfl,fun v w3 hb hF K hK=>?_⟩,trivial⟩) (hend:=fun v w3 hb hF _ fu=>?_)
   ·have hr:=(((qbU hb).block g5 (qG hr5).1).trans hr5)
    have k0:=cell_of_row _ _ 0 _ _ _ hr
    have k1:=cell_of_row _ _ 1 _ _ _ hr
    have k2:=cell_of_row _ _ 2 _ _ _ hr
    have k3:=cell_of_row _ _ 3 _ _ _ hr
    exact gV hK rfl
   ·exact gC hK (HT.out w3 (qbU hb)) (h:=fun e w4 ⟨u,e1,h1,h2,_⟩=>⟨u,e1,h2,h1⟩)
   ·have e0:v 0=_:=hF.1
    have i9:qbK w3 (v 9) _:=hF.2.1
    exact gC hK (HP.out w3 _ (qbU hb) i9) (h:=fun e w4 ⟨u,e1,h1,h2,_⟩=>⟨u,e1,h2,h1⟩)
   have i10:qbK w3 (v 10) (sumQ (k+1) fun i=>f1 i*f2 i):=hF 10 (by decide) (by decide)
   obtain⟨ux,e10⟩:=i10.qv
   rw [e10] at i10
   have K5:=K4.below (qbU hb)
   have hS3:=qbR hS0 hb
   obtain⟨u6,hr6,_⟩:=K5.out.2
   rw [e10]
   refine hSt 11 4 hr6 (h:=⟨qbL hS3 (qb9 _ _ _),?_⟩)
   have K6:Kn (fun W=>(Below w.heap.size w W∧W.heap[w.heap.size]? = some (.cells #[.bool false,.slice none 0 0,.bool false,.slice none 0 0] 123 (0,0)))∧QBlk W g5 (sumQ (k+1) fun i=>f1 i*f2 i)) (w3.setRow g5 #[.bool ux.1,.slice ux.2.1.1 ux.2.1.2.1 ux.2.1.2.2,.bool false,.slice ux.2.2.1 ux.2.2.2.1 ux.2.2.2.2]) :=
    .of ⟨⟨below_setRow K5.out.1.1 (by omega) _,(setRow_other _ _ _ _ (by omega)).trans K5.out.1.2⟩,K5.out.2.put i10⟩
   obtain⟨W7,hW7⟩:∃W7,W7=w3.setRow g5 #[.bool ux.1,.slice ux.2.1.1 ux.2.1.2.1 ux.2.1.2.2,.bool false,.slice ux.2.2.1 ux.2.2.2.1 ux.2.2.2.2]:=⟨_,rfl⟩
   rw [←hW7] at K6 ⊢
   clear hW7 hb hF e10 i10 K5 hS3 hr6 hS0 p0 p1 p2 p3 q0 q1 q2 q3 hr5 HT HP
   go_wp2_with fail
   go_roundw
   case rel=>exact⟨k+1,by go_num,hkn,K6⟩
   case measure=>simp [intOf];omega
  ·obtain rfl:k=n:=by omega
   have hr0:=K4.out.1.2
   go_wp2_with (first | ((with_reducible refine qbJ rfl 123 _ rfl (g5) ?_ 123 #[.bool u5.1,.slice u5.2.1.1 u5.2.1.2.1 u5.2.1.2.2,.bool false,.slice u5.2.2.1 u5.2.2.2.1 u5.2.2.2.2] _ hr5 Tryz.underlying123 ?_ 4 ?_ ?_ ?_);(next=>rfl);(next=>rfl);(next=>kernel_rfl);(next=>rfl)) | ((with_reducible refine wpList_store_row rfl 123 _ _ rfl (w.heap.size) #[.bool u5.1,.slice u5.2.1.1 u5.2.1.2.1 u5.2.1.2.2,.bool false,.slice u5.2.2.1 u5.2.2.2.1 u5.2.2.2.2] ?_ ?_ 123 _ hr0 4 ?_ ?_ ?_ ?_ ?_);(next=>rfl);(next=>rfl);(next=>kernel_rfl);(next=>rfl);(next=>rfl);(next=>rfl)) | fail)
   exact bodyPost_ret (v:=qagg u5) (qbN rfl _ _ (w.heap.size) 123 _ _ rfl (setRow_heap _ _ _ _ _ _ hr0) Tryz.underlying123 rfl 4 (by kernel_rfl) rfl) rfl ⟨_,rfl,below_setRow K4.out.1.1 qN _,qco hz5 hr0 (nd4 _ _ _ _ _ _ _ _)⟩
theorem qgZ (ao:Option Addr) (R c:Nat) (ao2:Option Addr) (b2 off2 n c2:Nat) (l:List FT) (w:World) (hl:l.length=n) (hn:n≤1000000) (hA:FAll l) (hF:FCells w ao2 b2 off2 l) :
  Calls Tryz.prog 63 #[.slice ao R c,.slice ao2 n c2] w fun e w'=>SaysB w (n=R∧¬Neg l) e w':=by
 have HC:=qH (qA hF (qA hl hA))
 clear hF hl hA
 go_enter Tryz.func63,Tryz.ntmps63
 go_wp2_with fail
 go_loopw [5] (fun x5 W=>∃k:Nat,x5=.int .i64 k∧k≤n∧Hid (∀i,i<k→¬ival (l.getD i fd0).1.data.toList<0)∧W=w) (fun x5 _=>n-(intOf x5).toNat)
 case atStart=>exact⟨0,rfl,qam _,qH (fun i hi=>absurd hi (by omega)),rfl⟩
 case round =>
  obtain⟨k,rfl,hk,HI,rfl⟩:=hrel
  by_cases hkn:k<n
  ·have hki:(k:Int)<n:=by omega
   have har:=HC.out.1.addr (by rw [HC.out.2.1];omega)
   subst har
   obtain⟨d0,_⟩:=HC.out.1.cell k (by rw [HC.out.2.1];exact hkn)
   have hv:=(HC.out.2.2 k (by rw [HC.out.2.1];exact hkn)).vn
   obtain⟨N,hN⟩:∃N,(l.getD k fd0).1=N:=⟨_,rfl⟩
   rw [hN] at d0 hv
   have hlen:N.size=N.data.toList.length:=by rw [qa6];rfl
   have hsz0:0<N.size:=by
    rw [hlen]
    apply Nat.pos_of_ne_zero
    intro e
    have:=hv.pos
    rw [qa3.1 e] at this
    exact absurd this (by decide)
   have hat:(N[0]'hsz0)=N.data.toList[0]'(by omega):=rfl
   obtain⟨c0,hc0⟩:∃c0,(N[0]'hsz0).toNat=c0:=⟨_,rfl⟩
   have hsg:ival N.data.toList<0↔c0=45:=by
    have h1:=hv.neg
    by_cases h:c0=45
    ·rw [(qi7 (L:=N.data.toList) (by omega) (by rw [←hat,hc0,h])).2,decide_eq_true_iff] at h1
     exact⟨fun _=>h,fun _=>h1⟩
    ·rw [(qhQ (L:=N.data.toList) (by omega) (by rw [←hat,hc0];exact h)).2,decide_eq_false_iff_not] at h1
     exact⟨fun a=>absurd a h1,fun a=>absurd a h⟩
   have HX:=qH (qA hN hsg)
   clear hN hsg hat hlen hv
   by_cases h45:c0=45
   ·have hcb:((c0:Int) == 45)=true:=by rw [beq_iff_eq];omega
    have HN:=qH h45
    clear h45
    go_wp2_with fail
    go_ret
    exact SaysB.no (fun h=>h.2 ⟨k,by rw [HC.out.2.1];exact hkn,by rw [HX.out.1];exact HX.out.2.2 HN.out⟩) qB
   ·have hcb:((c0:Int) == 45)=false:=by rw [beq_eq_false_iff_ne];omega
    have HN:=qH h45
    clear h45
    go_wp2_with fail
    go_roundw
    case rel=>exact⟨k+1,by go_num,hkn,qH (fun i hi=>by
     rcases (show i<k∨i=k by omega) with h | h
     ·exact HI.out i h
     ·rw [h,HX.out.1];exact fun h=>HN.out (HX.out.2.1 h)),by trivial⟩
    case measure=>simp [intOf];omega
  ·obtain rfl:k=n:=by omega
   have hneg:¬Neg l:=fun⟨i,hi,hz⟩=>HI.out i (by rw [←HC.out.2.1];exact hi) hz
   have HN:=qH hneg
   clear hneg
   by_cases e:k=R
   ·have he:((k:Int) == (R:Int))=true:=by rw [beq_iff_eq];omega
    have HE:=qH e
    clear e
    go_wp2_with fail
    go_ret
    exact SaysB.yes ⟨HE.out,HN.out⟩ qB
   ·have he:((k:Int) == (R:Int))=false:=by rw [beq_eq_false_iff_ne];omega
    have HE:=qH e
    clear e
    go_wp2_with fail
    go_ret
    exact SaysB.no (fun h=>HE.out h.1) qB
theorem QRow.less {W:World} {g C D:Nat} {f:Nat→Rat} (h:QRow W g C f) (hD:D≤C):QRow W g D f:=by
 obtain⟨cur,q,h1,h2,h3⟩:=h
 exact⟨cur,q,h1,h2,fun j hj=>h3 j (by omega)⟩
def fitF (R n:Nat) (a:Nat→Nat→Rat) (b u:Nat→Rat) (j k:Nat):Rat:=sumQ R fun i=>u i*(a i j*(if k<n then a i k else b i))
structure FitSt (W:World) (B:Nat) (vm vv:Value) (j n:Nat) (F:Nat→Nat→Rat) (hs:List Value) (gs cp:Nat→Nat) (L:List QV):Prop where
 rws:Rws W B 96 1 vm j hs
 row:∀i,i<j→hs[i]? = some (.slice (some ⟨gs i,0,none⟩) n (cp i))∧QRow W (gs i) n (F i)∧B≤gs i∧n≤cp i
 up:∀i k,i<k→k<j→gs i<gs k
 len:L.length=j
 lst:Rws W B 123 4 vv j (qflat L)
 val:QsAt W L fun i=>F i n
 apart:∀i,i<j→vv.ownBlock≠some (gs i)
instance stays_fit {B:Nat} {vm vv:Value} {j n:Nat} {F:Nat→Nat→Rat} {hs:List Value} {gs cp:Nat→Nat} {L:List QV}:Stays fun W=>FitSt W B vm vv j n F hs gs cp L :=
 ⟨fun h hb=>⟨h.rws.below hb,fun i hi=>⟨(h.row i hi).1,(h.row i hi).2.1.below hb,(h.row i hi).2.2⟩,h.up,h.len,h.lst.below hb,h.val.below hb,h.apart⟩⟩
theorem FitSt.start (W:World) (B n:Nat) (F:Nat→Nat→Rat):FitSt W B (.slice none 0 0) (.slice none 0 0) 0 n F [] (fun _=>0) (fun _=>0) [] :=
 ⟨Rws.nil _ _ _ _,fun i hi=>absurd hi (by omega),fun i k _ hk=>absurd hk (by omega),rfl,Rws.nil _ _ _ _,fun k hk=>absurd hk (by simp),fun i hi=>absurd hi (by omega)⟩
theorem FitSt.done {W:World} {B:Nat} {vm vv:Value} {j n:Nat} {F:Nat→Nat→Rat} {hs:List Value} {gs cp:Nat→Nat} {L:List QV} (h:FitSt W B vm vv j n F hs gs cp L):QRows W B vm j n F∧QList W B vv j fun i=>F i n :=
 ⟨⟨hs,gs,cp,h.rws,h.row,h.up⟩,⟨L,h.len,h.lst,h.val⟩⟩
theorem FitSt.next {w0 w:World} {B:Nat} {vm vv:Value} {j n:Nat} {F:Nat→Nat→Rat} {hs:List Value} {gs cp:Nat→Nat} {L:List QV} {gr cr g:Nat} (ty:TypeId) (h:FitSt w0 B vm vv j n F hs gs cp L) (hw0:Below w0.heap.size w0 w) (hB:B≤w0.heap.size)
  (hg:w.heap[g]? = some (.cells #[.slice (some ⟨gr,0,none⟩) n cr] 96 (0,0))) (hj:j<1000000) (hr:QRow w gr (n+1) (F j)) (hgr:w0.heap.size≤gr) (hcr:n≤cr) :
  ∃v' w',(Builtin.append_ #[85,85] ty #[vm,.slice (some ⟨g,0,none⟩) 1 1]).run Tryz.prog w=.ok v' w'∧w.grownBy w' vm.ownBlock∧QRow w' gr (n+1) (F j) ∧
   ∀(w2 _w3:World) (u:QV) (g2:Nat) (ty2:TypeId),Below w'.heap.size w' w2→w2.heap[g2]? = some (.cells (qcR u).toArray 123 (0,0))→qbK w2 (qagg u) (F j n) →
    ∃v2 w3,(Builtin.append_ #[96,96] ty2 #[vv,.slice (some ⟨g2,0,none⟩) 1 1]).run Tryz.prog w2=.ok v2 w3∧w2.grownBy w3 vv.ownBlock ∧
     FitSt w3 B v' v2 (j+1) n F (hs++[.slice (some ⟨gr,0,none⟩) n cr]) (fun i=>if i=j then gr else gs i) (fun i=>if i=j then cr else cp i) (L++[u]):=by
 obtain⟨i0,hi,hz0,hz1,hz2⟩:=info_parts infoQs
 have hl:hs.length=j:=by have:=h.rws.1;omega
 have k1:=h.rws.below hw0
 obtain⟨v',w',hru,hown',hgrow,_⟩:=qcl (P:=Tryz.prog) w B 85 ty 96 i0 _ 1 24 Tryz.underlying85 hi hz0 hz1 hz2 rfl (by decide) (fun y hy=>by rw [qap.1 (show y∈[Value.slice none 0 0] from hy)];exact qcF _ _ _) vm j hs k1 ⟨g,0,none⟩ 1 1 [.slice (some ⟨gr,0,none⟩) n cr] rfl (fun i u hi=>by
  rw [Addr.add_mid]
  match i,hi with
  | 0,hi=>exact (cell_of_row _ _ _ _ _ _ hg).trans hi) (fun u hu=>by rw [qap.1 hu];rfl) (fun u hu=>by rw [qap.1 hu];exact qcF _ _ _) (by decide) (by unfold maxLen;omega) (by omega) (qai hB hw0.size)
 have hne:96≠123:=by decide
 have hr':=QRow.grown k1 hgrow hr hne
 have hL:=h.lst.below hw0
 have hL':=hL.kept hgrow (hL.ne k1 (by decide))
 have hV':QsAt w' L fun i=>F i n:=QsAt.keep k1 hgrow (h.val.below hw0)
 have hrow:∀i,i<j→QRow w' (gs i) n (F i):=fun i hi=>QRow.grown k1 hgrow ((h.row i hi).2.1.below hw0) hne
 refine⟨v',w',hru,hgrow,hr',fun w2 _ u g2 ty2 hb2 hg2 hu=>?_⟩
 have hBw':B≤w'.heap.size:=qai (qai hB hw0.size) hgrow.size
 obtain⟨i1,hi',hy0,hy1,hy2⟩:=info_parts infoQ
 have hL2:=hL'.below hb2
 obtain⟨v2,w3,hr2,h2,h3,h4⟩:=qcl (P:=Tryz.prog) w2 B 96 ty2 123 i1 _ 4 64 Tryz.underlying96 hi' hy0 hy1 hy2 rfl (by decide) (qdu qd) vv j (qflat L) hL2 ⟨g2,0,none⟩ 1 1 (qcR u) rfl (fun i z hi=>by
  rw [Addr.add_mid,qa2]
  exact (cell_of_row _ _ i _ _ _ hg2).trans ((qaz ..).trans hi)) (qfJ u) (qdu u) (by decide) (by unfold maxLen;omega) (by omega) (qai hBw' hb2.size)
 have hvlt:∀k,vv.ownBlock=some k→k<w0.heap.size:=fun k hk=>(h.lst.lt k hk).2
 have hgrl:=hr'.lt
 have krow:∀{g' C:Nat} {f:Nat→Rat},QRow w' g' C f→vv.ownBlock≠some g'→QRow w3 g' C f:=fun {g' C f} hq hne'=>by
  have hq2:=hq.below hb2
  obtain⟨cur,q,q1,q2,q3⟩:=hq2
  exact⟨cur,q,(h3.block g' (qG q1).1 (fun e=>hne' e.symm)).trans q1,q2,fun i hi=>⟨(q3 i hi).1,Rws.ratio hL2 h3 (q3 i hi).2⟩⟩
 have hvg:vv.ownBlock≠some gr:=fun e=>by have:=hvlt _ e;omega
 refine⟨v2,w3,hr2,h3,(hown'.below hb2).kept h3 ((hown'.below hb2).ne hL2 hne),fun i hi=>?_,fun i k hik hk=>?_,by rw [qag,h.len];rfl,by rw [qis];exact h2,(QsAt.keep hL2 h3 (hV'.below hb2)).snoc (Rws.ratio hL2 h3 hu) (by rw [h.len]),fun i hi=>?_⟩
 ·by_cases e:i=j
  ·subst e
   rw [if_pos rfl,if_pos rfl]
   exact⟨by rw [qas (by omega),hl,qaH];rfl,krow (hr'.less (qbi _)) hvg,qai hB hgr,hcr⟩
  ·rw [if_neg e,if_neg e]
   obtain⟨a1,_,a3,a4⟩:=h.row i (by omega)
   exact⟨by rw [qaB (by omega)];exact a1,krow (hrow i (by omega)) (h.apart i (by omega)),a3,a4⟩
 ·rw [if_neg (show i≠j by omega)]
  by_cases e:k=j
  ·rw [if_pos e]
   exact qaj ((h.row i (by omega)).2.1).lt hgr
  ·rw [if_neg e];exact h.up i k hik (by omega)
 ·have hnew:some w2.heap.size≠some gr:=fun e=>by
   have:=qah e
   have:=hb2.size
   omega
  by_cases e:i=j
  ·rw [if_pos e]
   rcases h4 with h4 | h4
   ·rw [h4];exact hvg
   ·rw [h4];exact hnew
  ·rw [if_neg e]
   rcases h4 with h4 | h4
   ·rw [h4];exact h.apart i (by omega)
   ·rw [h4]
    intro e2
    have e3:=qah e2
    have:=(hrow i (by omega)).lt
    have:=hb2.size
    omega
theorem QBlk.other {W:World} {g g2:Nat} {p q:Rat} {u:QV} (h:QBlk W g q) (h2:QBlk W g2 p) (hne:g≠g2):QBlk (W.setRow g2 #[.bool u.1,.slice u.2.1.1 u.2.1.2.1 u.2.1.2.2,.bool false,.slice u.2.2.1 u.2.2.2.1 u.2.2.2.2]) g q:=by
 obtain⟨v,h3,h4⟩:=h
 obtain⟨x,h5,_⟩:=h2
 exact⟨v,(setRow_other _ _ _ _ hne).trans h3,qco h4 h5 (nd4 _ _ _ _ _ _ _ _)⟩
theorem qj7 (R n K B1 B2 B3:Nat) (va vb vu:Value) (a:Nat→Nat→Rat) (b u:Nat→Rat) (w:World) (hR0:0<R) (hR:R≤900) (hn0:0<n) (hn:n≤900) (_hK1:1≤K) (hK:5 ^ (n+2)*(R*(3*K+1)+1)≤17592186000000) (hK2:R*(3*K+1)+3*K+3≤17592186000000)
  (ha:QRows w B1 va R n a) (hb:QList w B2 vb R b) (hu:QList w B3 vu R u) (fa:∀i,i<R→∀j,j<n→RFit (a i j) K) (fb:∀i,i<R→RFit (b i) K) (fu:∀i,i<R→RFit (u i) K) :
  Calls Tryz.prog 64 #[va,vb,vu] w fun e w'=>OnlyAs w n (R*(3*K+1)+1) (fitF R n a b u) (fun i=>fitF R n a b u i n) e w':=by
 obtain⟨Ta,ca,gs,cp,rfl,hQ⟩:=ha.tab hR0
 obtain⟨gb,cb,rfl,_,_,hrb⟩:=hb.row hR0
 obtain⟨gu,cu,rfl,_,_,hru⟩:=hu.row hR0
 have hF0:∀j,j<n→∀k (Y:Nat→Rat),(k<n→Y=fun i=>a i k)→(¬k<n→Y=b)→fitF R n a b u j k=(sumQ R fun i=>u i*(a i j*Y i))∧(∀i,i<R→k≤n→RFit (Y i) K):=fun j hj k Y h1 h2=>by
  by_cases e:k<n
  ·rw [h1 e]
   refine⟨?_,fun i hi _=>fa i hi k e⟩
   unfold fitF
   exact qbY fun i hi=>by rw [if_pos e]
  ·rw [h2 e]
   refine⟨?_,fun i hi _=>fb i hi⟩
   unfold fitF
   exact qbY fun i hi=>by rw [if_neg e]
 have hFf:∀j,j<n→∀k,k≤n→RFit (fitF R n a b u j k) (R*(3*K+1)+1):=fun j hj k hk=>by
  refine qfR (K:=3*K) fun i hi=>?_
  have h3:RFit (if k<n then a i k else b i) K:=by
   by_cases e:k<n
   ·rw [if_pos e];exact fa i hi k e
   ·rw [if_neg e];exact fb i hi
  exact ((fu i hi).mulR ((fa i hi j hj).mulR h3)).mono (by omega)
 obtain⟨F,hF⟩:∃F,fitF R n a b u=F:=⟨_,rfl⟩
 rw [hF] at hF0 hFf ⊢
 have HX:=qH (qA hQ (qA hrb (qA hru (qA fa (qA fu (qA hF0 hFf))))))
 have HK:=qH (qA hK hK2)
 have c0:=(hQ.head hR0).1
 have hR0i:(0:Int)<R:=by omega
 clear ha hb hu hQ hrb hru hF0 hFf hF fa fb fu hK hK2
 go_enter Tryz.func64,Tryz.ntmps64
 go_wp2_with fail
 clear c0
 go_loopw [9,10,11,12,13,14,15,16] (fun x9 x10 x11 _ _ _ _ _ W=>∃(j:Nat) (hs:List Value) (gt ct:Nat→Nat) (L:List QV),x11=.int .i64 j∧j≤n∧Kn (fun W=>Below w.heap.size w W∧FitSt W w.heap.size x9 x10 j n F hs gt ct L) W) (fun _ _ x11 _ _ _ _ _ _=>n-(intOf x11).toNat)
 case atStart=>exact⟨0,[],fun _=>0,fun _=>0,[],rfl,qam _,.of ⟨Below.refl _ _,FitSt.start _ _ _ _⟩⟩
 case round =>
  obtain⟨j,hs,gt,ct,L,rfl,hj,K1⟩:=hrel
  obtain⟨wo,hwo⟩:∃wo:World,wo=wr:=⟨_,rfl⟩
  subst hwo
  by_cases hjn:j<n
  ·have hji:(j:Int)<n:=by omega
   go_wp2_with fail
   go_loopw [12,13,14,15,16] (fun x12 x13 _ _ _ W=>∃k:Nat,x13=.int .i64 k∧k≤n+1∧Kn (fun W=>Below wo.heap.size wo W∧QList W wo.heap.size x12 k (F j)) W) (fun _ x13 _ _ _ _=>n+1-(intOf x13).toNat)
   case atStart=>exact⟨0,rfl,qam _,.of ⟨Below.refl _ _,QList.nil _ _ _⟩⟩
   case round =>
    obtain⟨k,rfl,hk,K2⟩:=hrel
    by_cases hkn:k≤n
    ·have hki:(k:Int)≤n:=by omega
     go_wp2_with fail
     refine (qfo 0 1 (by decide) (by decide) (by decide) _).mono ?_
     rintro e w2 ⟨v,rfl,hb,hv⟩
     obtain⟨uq,rfl⟩:=hv.qv
     have K3:=K2.below hb
     obtain⟨g14,hg14⟩:∃g,g=w2.heap.size:=⟨_,rfl⟩
     obtain⟨W3,hW3⟩:∃W3,W3=w2.alloc (.cells #[.bool uq.1,.slice uq.2.1.1 uq.2.1.2.1 uq.2.1.2.2,.bool false,.slice uq.2.2.1 uq.2.2.2.1 uq.2.2.2.2] 123):=⟨_,rfl⟩
     have hv0:qbK w2 (qagg uq) 0:=hv
     obtain⟨Y,hY1,hY2⟩:∃Y:Nat→Rat,(k<n→Y=fun i=>a i k)∧(¬k<n→Y=b):=by
      by_cases e:k<n
      ·exact⟨fun i=>a i k,fun _=>rfl,fun h=>absurd e h⟩
      ·exact⟨b,fun h=>absurd h e,fun _=>rfl⟩
     have hFY:=HX.out.2.2.2.2.2.1 j hjn k Y hY1 hY2
     have HY:=qH (qA hFY.1 (qA (fun i hi=>hFY.2 i hi hkn) (qA hY1 hY2)))
     have K4:Kn (fun W=>Below w2.heap.size w2 W∧QBlk W g14 (sumQ 0 fun i=>u i*(a i j*Y i))) W3:=.of (by rw [hW3,hg14];exact⟨qbI qB qN,QBlk.new hv0⟩)
     have Hg:=qH hg14
     clear hb hv hv0 hY1 hY2 hFY
     go_wp2_with (first | ((with_reducible refine qb1 rfl 123 _ _ rfl #[.bool false,.slice none 0 0,.bool false,.slice none 0 0] #[.bool uq.1,.slice uq.2.1.1 uq.2.1.2.1 uq.2.1.2.2,.bool false,.slice uq.2.2.1 uq.2.2.2.1 uq.2.2.2.2] ?_ ?_ 4 ?_ ?_ ?_ ?_ ?_);(next=>rfl);(next=>rfl);(next=>kernel_rfl);(next=>rfl);(next=>rfl);(next=>rfl)) | fail)
     rw [←hg14,←hW3]
     clear hW3 hg14
     go_loopw [15,16] (fun x15 _ W=>∃i:Nat,x15=.int .i64 i∧i≤R∧Kn (fun W=>Below w2.heap.size w2 W∧QBlk W g14 (sumQ i fun i=>u i*(a i j*Y i))) W) (fun x15 _ _=>R-(intOf x15).toNat)
     case atStart=>exact⟨0,rfl,qam _,K4⟩
     case round =>
      obtain⟨i,rfl,hi,K5⟩:=hrel
      have hbw:Below w.heap.size w wr:=(K1.out.1.trans (K3.out.1.mono K1.out.1.size)).trans (K5.out.1.mono (qai K1.out.1.size K3.out.1.size))
      by_cases hlt:i<R
      ·have hii:(i:Int)<R:=by omega
       have Rb:=HX.out.2.1.below hbw
       obtain⟨ub,hub,d0,d1,d2,d3⟩:=Rb.cells i hlt
       have hQa:=HX.out.1.below hbw
       have hga:=(hQa.head hlt).1
       have HB:=qH hbw
       have hgl:gs i<wr.heap.size:=(hQa.rows i hlt).row.lt
       have hTl:Ta<wr.heap.size:=qac wr _ hga
       obtain⟨g16,hg16⟩:∃g,g=wr.heap.size:=⟨_,rfl⟩
       obtain⟨W5,hW5⟩:∃W5,W5=wr.alloc (.cells #[.bool ub.1,.slice ub.2.1.1 ub.2.1.2.1 ub.2.1.2.2,.bool false,.slice ub.2.2.1 ub.2.2.2.1 ub.2.2.2.2] 123):=⟨_,rfl⟩
       have hb5:Below wr.heap.size wr W5:=hW5▸qbI qB qN
       have K6:Kn (fun W=>(Below w2.heap.size w2 W∧QBlk W g14 (sumQ i fun i=>u i*(a i j*Y i)))∧QBlk W g16 (b i)) W5:=by
        rw [hg16]
        exact K5.on (q:=fun W=>QBlk W wr.heap.size (b i)) hb5 (hW5▸QBlk.new hub)
       have hg14l:g14<g16:=by
        obtain⟨_,h1,_⟩:=K5.out.2
        rw [hg16]
        exact (qG h1).1
       have hs5:W5.heap.size=g16+1:=by rw [hW5,qab,hg16]
       have Hs:=qH (qA hs5 (qA hb5 (show wr.heap.size≤g16 by rw [hg16];exact qae _)))
       clear hbw hub hQa hs5 hb5 Rb
       go_upto_if 44 with (first | ((with_reducible refine qb1 rfl 123 _ _ rfl #[.bool false,.slice none 0 0,.bool false,.slice none 0 0] #[.bool ub.1,.slice ub.2.1.1 ub.2.1.2.1 ub.2.1.2.2,.bool false,.slice ub.2.2.1 ub.2.2.2.1 ub.2.2.2.2] ?_ ?_ 4 ?_ ?_ ?_ ?_ ?_);(next=>rfl);(next=>rfl);(next=>kernel_rfl);(next=>rfl);(next=>rfl);(next=>rfl)) | fail)
       rw [←hg16,←hW5]
       clear hW5 hg16 hga d0 d1 d2 d3
       go_cut [] (fun W=>Hid (Below wr.heap.size wr W)∧Kn (fun W=>(Below w2.heap.size w2 W∧QBlk W g14 (sumQ i fun i=>u i*(a i j*Y i)))∧QBlk W g16 (Y i)) W)
       case first =>
        by_cases hkl:k<n
        ·have hkli:(k:Int)<n:=by omega
         have hb5w:=HB.out.trans (Hs.out.2.1.mono HB.out.size)
         have hQ5:=HX.out.1.below hb5w
         have h0:=(hQ5.head hlt).1
         obtain⟨ua,ha,a0,a1,a2,a3⟩:=(hQ5.rows i hlt).row.cells k hkl
         obtain⟨_,r16,_⟩:=K6.out.2
         have eY:Y i=a i k:=by rw [HY.out.2.2.1 hkl]
         have HU:=qH (qA ha eY)
         clear ha eY hQ5 hb5w
         go_wp2_with (first | ((with_reducible refine wpList_store_row rfl 123 _ _ rfl (g16) #[.bool ua.1,.slice ua.2.1.1 ua.2.1.2.1 ua.2.1.2.2,.bool false,.slice ua.2.2.1 ua.2.2.2.1 ua.2.2.2.2] ?_ ?_ 123 _ r16 4 ?_ ?_ ?_ ?_ ?_);(next=>rfl);(next=>rfl);(next=>kernel_rfl);(next=>rfl);(next=>rfl);(next=>rfl)) | fail)
         go_meet
         exact⟨qH (below_setRow Hs.out.2.1 Hs.out.2.2 _),.of ⟨⟨below_setRow K6.out.1.1 (qai K5.out.1.size Hs.out.2.2) _,K6.out.1.2.other K6.out.2 (by omega)⟩,by rw [HU.out.2];exact K6.out.2.put HU.out.1⟩⟩
        ·have hkli:¬(k:Int)<n:=by omega
         have eY:Y i=b i:=by rw [HY.out.2.2.2 hkl]
         have HU:=qH eY
         clear eY
         go_wp2_with fail
         go_meet
         exact⟨qH Hs.out.2.1,by rw [HU.out];exact K6⟩
       case rest =>
        obtain⟨HW6,K6⟩:=hcut
        have hbw:=HB.out.trans (HW6.out.mono HB.out.size)
        have hQa:=HX.out.1.below hbw
        have Ru:=HX.out.2.2.1.below hbw
        have hga:=(hQa.head hlt).1
        obtain⟨ua,ha,a0,a1,a2,a3⟩:=(hQa.rows i hlt).row.cells j hjn
        obtain⟨uu,hu,b0,b1,b2,b3⟩:=Ru.cells i hlt
        obtain⟨us,r14,hs14⟩:=K6.out.1.2
        obtain⟨uy,r16,hs16⟩:=K6.out.2
        have nx:∀{g:Nat},g<w.heap.size→some g≠some g14:=fun h e=>by
         have h1:=qah e
         have h2:=K1.out.1.size
         have h3:=K3.out.1.size
         have h4:=Hg.out
         omega
        have l1:Ta<w.heap.size:=qac w _ (HX.out.1.head hlt).1
        have l2:gs i<w.heap.size:=(HX.out.1.rows i hlt).row.lt
        have l3:gu<w.heap.size:=HX.out.2.2.1.lt
        have hne16:some g16≠some g14:=fun e=>by have:=qah e;omega
        have p0:∀W,wc.grownBy W (some g14)→W.cell? ⟨Ta,i,none⟩=some (.slice (some ⟨gs i,0,none⟩) n (cp i)):=fun W h=>h.cell hga (nx l1)
        have q0:∀W,wc.grownBy W (some g14)→W.cell? ⟨gs i,j*4,none⟩=some (.bool ua.1):=fun W h=>h.cell a0 (nx l2)
        have q1:∀W,wc.grownBy W (some g14)→W.cell? ⟨gs i,j*4+1,none⟩=some (.slice ua.2.1.1 ua.2.1.2.1 ua.2.1.2.2):=fun W h=>h.cell a1 (nx l2)
        have q2:∀W,wc.grownBy W (some g14)→W.cell? ⟨gs i,j*4+2,none⟩=some (.bool false):=fun W h=>h.cell a2 (nx l2)
        have q3:∀W,wc.grownBy W (some g14)→W.cell? ⟨gs i,j*4+3,none⟩=some (.slice ua.2.2.1 ua.2.2.2.1 ua.2.2.2.2):=fun W h=>h.cell a3 (nx l2)
        have s0:∀W,wc.grownBy W (some g14)→W.cell? ⟨gu,i*4,none⟩=some (.bool uu.1):=fun W h=>h.cell b0 (nx l3)
        have s1:∀W,wc.grownBy W (some g14)→W.cell? ⟨gu,i*4+1,none⟩=some (.slice uu.2.1.1 uu.2.1.2.1 uu.2.1.2.2):=fun W h=>h.cell b1 (nx l3)
        have s2:∀W,wc.grownBy W (some g14)→W.cell? ⟨gu,i*4+2,none⟩=some (.bool false):=fun W h=>h.cell b2 (nx l3)
        have s3:∀W,wc.grownBy W (some g14)→W.cell? ⟨gu,i*4+3,none⟩=some (.slice uu.2.2.1 uu.2.2.2.1 uu.2.2.2.2):=fun W h=>h.cell b3 (nx l3)
        have y0:∀W,wc.grownBy W (some g14)→W.cell? ⟨g16,0,none⟩=some (.bool uy.1):=fun W h=>h.cell (cell_of_row _ _ 0 _ _ _ r16) hne16
        have y1:∀W,wc.grownBy W (some g14)→W.cell? ⟨g16,1,none⟩=some (.slice uy.2.1.1 uy.2.1.2.1 uy.2.1.2.2):=fun W h=>h.cell (cell_of_row _ _ 1 _ _ _ r16) hne16
        have y2:∀W,wc.grownBy W (some g14)→W.cell? ⟨g16,2,none⟩=some (.bool false):=fun W h=>h.cell (cell_of_row _ _ 2 _ _ _ r16) hne16
        have y3:∀W,wc.grownBy W (some g14)→W.cell? ⟨g16,3,none⟩=some (.slice uy.2.2.1 uy.2.2.2.1 uy.2.2.2.2):=fun W h=>h.cell (cell_of_row _ _ 3 _ _ _ r16) hne16
        have fa:=HX.out.2.2.2.1 i hlt j hjn
        have fu:=HX.out.2.2.2.2.1 i hlt
        have fY:=HY.out.2.1 i hlt
        have fs:RFit (sumQ i fun i=>u i*(a i j*Y i)) (i*(3*K+1)+1):=qfR fun r hr=>((HX.out.2.2.2.2.1 r (by omega)).mulR ((HX.out.2.2.2.1 r (by omega) j hjn).mulR (HY.out.2.1 r (by omega)))).mono (by omega)
        have hfit:i*(3*K+1)+1+3*K+1≤17592186000000:=by
         have h1:=HK.out.2
         have h2:i*(3*K+1)≤R*(3*K+1):=qaR _ (by omega)
         omega
        have HT1:=qH (fun (W:World) (h:Below wc.heap.size wc W)=>qdv (a i j) (Y i) K K (by omega) (qagg ua) (qagg uy) W (ha.below h) (hs16.below h) fa fY)
        have HT2:=qH (fun (W:World) (x:Value) (h:Below wc.heap.size wc W) (hx:qbK W x (a i j*Y i))=>qdv (u i) (a i j*Y i) K (K+K) (by omega) (qagg uu) x W (hu.below h) hx fu (fa.mulR fY))
        have HPl:=qH (fun (W:World) (x:Value) (h:Below wc.heap.size wc W) (hx:qbK W x (u i*(a i j*Y i)))=>qfr (sumQ i fun i=>u i*(a i j*Y i)) (u i*(a i j*Y i)) _ (K+(K+K)) (by omega) (qagg us) x W (hs14.below h) hx fs (fu.mulR (fa.mulR fY)))
        clear hbw hQa Ru hga ha hu a0 a1 a2 a3 b0 b1 b2 b3 hs14 hs16 r16 fa fu fY fs hfit l1 l2 l3 hne16
        go_wp2_with fail
        refine wp_region_held_drew (S:=fun W=>wc.grownBy W (some g14)) (by kernel_rfl) (qbR (qb3 _ _) qB.drew) (fun hS0=>?_)
        refine hT 1 (h:=hT 2 (h:=hT 3 (h:=hT 4 (h:=hT 5 (h:=hT 6 (h:=hT 7 (h:=hT 8 (h:=hT 9 (h:=hT 10 (h:=hT 11 (h:=hT 12 (h:=?_))))))))))))
        refine gr [(0,52),(13,65),(14,66),(15,67)] [(14,[13]),(15,[0,14])] [1,2,3,4,5,6,7,8,9,10,11,12] [0,13,14,15] [] 16 17 (fl2 [(0,fun x _=>x=qagg us),(13,fun x W=>qbK W x (a i j*Y i)),(14,fun x W=>qbK W x (u i*(a i j*Y i))),(15,fun x W=>qbK W x (sumQ (i+1) fun i=>u i*(a i j*Y i)))]) _ 1
         (hS:=fun w' h=>qbR hS0 h) (hstep:=⟨⟨_,rfl,fun v w3 hb hF K hK=>?_⟩,⟨_,rfl,fun v w3 hb hF K hK=>?_⟩,⟨_,rfl,fun v w3 hb hF K hK=>?_⟩,⟨_,rfl,fun v w3 hb hF K hK=>?_⟩,trivial⟩) (hend:=fun v w3 hb hF _ fu=>?_)
        ·have hr:=(((qbU hb).block g14 (qG r14).1).trans r14)
         have k0:=cell_of_row _ _ 0 _ _ _ hr
         have k1:=cell_of_row _ _ 1 _ _ _ hr
         have k2:=cell_of_row _ _ 2 _ _ _ hr
         have k3:=cell_of_row _ _ 3 _ _ _ hr
         exact gV hK rfl
        ·exact gC hK (HT1.out w3 (qbU hb)) (h:=fun e w4 ⟨u,e1,h1,h2,_⟩=>⟨u,e1,h2,h1⟩)
        ·have i13:qbK w3 (v 13) _:=hF.1
         exact gC hK (HT2.out w3 _ (qbU hb) i13) (h:=fun e w4 ⟨u,e1,h1,h2,_⟩=>⟨u,e1,h2,h1⟩)
        ·have e0:v 0=_:=hF.1
         have i14:qbK w3 (v 14) _:=hF.2.1
         exact gC hK (HPl.out w3 _ (qbU hb) i14) (h:=fun e w4 ⟨u,e1,h1,h2,_⟩=>⟨u,e1,h2,h1⟩)
        have i15:qbK w3 (v 15) (sumQ (i+1) fun i=>u i*(a i j*Y i)):=hF 15 (by decide) (by decide)
        obtain⟨ux,e15⟩:=i15.qv
        rw [e15] at i15
        have K7:=K6.below (qbU hb)
        obtain⟨_,hr6,_⟩:=K7.out.1.2
        rw [e15]
        refine hSt 16 4 hr6 (h:=⟨qbL (qbR hS0 hb) (qb9 _ _ _),?_⟩)
        have K8:Kn (fun W=>Below w2.heap.size w2 W∧QBlk W g14 (sumQ (i+1) fun i=>u i*(a i j*Y i))) (w3.setRow g14 #[.bool ux.1,.slice ux.2.1.1 ux.2.1.2.1 ux.2.1.2.2,.bool false,.slice ux.2.2.1 ux.2.2.2.1 ux.2.2.2.2]):=.of ⟨below_setRow K7.out.1.1 (by have:=Hg.out;omega) _,K7.out.1.2.put i15⟩
        obtain⟨W7,hW7⟩:∃W7,W7=w3.setRow g14 #[.bool ux.1,.slice ux.2.1.1 ux.2.1.2.1 ux.2.1.2.2,.bool false,.slice ux.2.2.1 ux.2.2.2.1 ux.2.2.2.2]:=⟨_,rfl⟩
        rw [←hW7] at K8 ⊢
        clear hW7 hb hF e15 i15 K7 hr6 hS0 p0 q0 q1 q2 q3 s0 s1 s2 s3 y0 y1 y2 y3 r14 HT1 HT2 HPl nx
        go_wp2_with fail
        go_roundw
        case rel=>exact⟨i+1,by go_num,hlt,K8⟩
        case measure=>simp [intOf];omega
      ·obtain rfl:i=R:=by omega
       have KQ:=K3.below K5.out.1
       obtain⟨us,r14,hs14⟩:=K5.out.2
       have HU:=qH hs14
       clear hs14
       go_wp2_with (first | ((with_reducible refine qbJ rfl 123 _ rfl (g14) ?_ 123 #[.bool us.1,.slice us.2.1.1 us.2.1.2.1 us.2.1.2.2,.bool false,.slice us.2.2.1 us.2.2.2.1 us.2.2.2.2] _ r14 Tryz.underlying123 ?_ 4 ?_ ?_ ?_);(next=>rfl);(next=>rfl);(next=>kernel_rfl);(next=>rfl)) | (at_builtin;refine qey rfl _ _ rfl KQ.out.2 KQ.out.1.size rfl rfl rfl (by omega) HU.out HY.out.1 ?_;intro v' w' h1 h2 _;have K9:=qH (qA h1 h2);clear h1 h2) | fail)
       go_roundw
       case rel=>exact⟨k+1,by go_num,by omega,.of ⟨KQ.out.1.trans K9.out.2,K9.out.1⟩⟩
       case measure=>simp [intOf];omega
    ·obtain rfl:k=n+1:=by omega
     obtain⟨gr,cr,rfl,hgr,hcr,hrow⟩:=K2.out.2.row (Nat.succ_pos n)
     have hnb:Below wr.heap.size wr (wr.alloc (.cells #[.slice (some ⟨gr,0,none⟩) n cr] 96)):=qbI qB qN
     have hob:=K2.out.1.trans (hnb.mono K2.out.1.size)
     obtain⟨v9,w4,hr4,hg4,hq4,hnext⟩:=FitSt.next (gr:=gr) (cr:=cr) 85 K1.out.2 hob K1.out.1.size (heap_alloc_new wr _) (by omega) (hrow.below hnb) hgr (by omega)
     obtain⟨un,hun,e0,e1,e2,e3⟩:=hq4.cells n (Nat.lt_succ_self n)
     obtain⟨v10,w5,hr5,hg5,hfit⟩:=hnext (w4.alloc (.cells (qcR un).toArray 123)) w4 un w4.heap.size 96 (qbI qB qN) (heap_alloc_new w4 _) (hun.below (qbI qB qN))
     have hb0:Below w.heap.size w (wr.alloc (.cells #[.slice (some ⟨gr,0,none⟩) n cr] 96)):=K1.out.1.trans (hob.mono K1.out.1.size)
     have hb4:=(K1.out.2.rws.below hob).old hg4 hb0 qN hb0.size
     have hb5:Below w.heap.size w (w4.alloc (.cells (qcR un).toArray 123)):=hb4.trans (qbI qB hb4.size)
     have hb6:Below w.heap.size w w5:=hb5.trans ⟨hg5.os,hg5.tape,hg5.output,hg5.size,fun i hi=>hg5.block i (qaj hi hb5.size) (fun e=>by have:=(K1.out.2.lst.lt i e.symm).1;omega)⟩
     have hnc:(n:Int)≤(cr:Int):=by omega
     have hn0i:(0:Int)≤(n:Int):=by omega
     have hnn:(n:Int)<(n:Int)+1:=by omega
     have HZ:=qH (qA hb6 hfit)
     clear hb6 hb5 hb4 hb0 hfit hun hnext hq4 hg4 hg5 hob hnb hrow hgr
     go_wp2_with (first | (at_builtin;refine qeI rfl _ _ rfl rfl rfl hr4 ?_) | (at_builtin;refine qeI rfl _ _ rfl rfl rfl hr5 ?_) | fail)
     go_roundw
     case rel=>exact⟨j+1,_,_,_,_,by go_num,hjn,.of HZ.out⟩
     case measure=>simp [intOf];omega
  ·obtain rfl:j=n:=by omega
   have HO:=qH (qjG j (R*(3*K+1)+1) w.heap.size w.heap.size u9 u10 F (fun i=>F i j) wo hn0 hn (by omega) HK.out.1 K1.out.2.done.1 K1.out.2.done.2 (fun i hi k hk=>HX.out.2.2.2.2.2.2 i hi k (by omega)) (fun i hi=>HX.out.2.2.2.2.2.2 i hi j qN))
   go_wp2_with fail
   refine HO.out.mono ?_
   rintro e w3 ⟨h,hb⟩
   have HB:=qH (K1.out.1.trans (hb.mono K1.out.1.size))
   rcases h with ⟨hs,rfl⟩ | ⟨hs,x,v,hx,rfl,hq,hf⟩
   ·have HS:=qH hs
    clear hs hb
    go_wp2_with fail
    go_ret2
    exact⟨qau ⟨HS.out,rfl⟩,HB.out⟩
   ·have HS:=qH (qA hs (qA hx (qA (hq.mono K1.out.1.size) hf)))
    clear hs hx hq hf hb
    go_wp2_with fail
    go_ret2
    exact⟨qaq ⟨HS.out.1,x,v,HS.out.2.1,rfl,HS.out.2.2.1,HS.out.2.2.2⟩,HB.out⟩
end Go.Proofs.YtfminfgabiipjaaGreatDoor.p4
