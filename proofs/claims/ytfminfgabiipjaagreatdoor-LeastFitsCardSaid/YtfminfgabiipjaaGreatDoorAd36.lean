/- Ad, part 36: Rp Rq Rr Rs Ru Rv Rx Ry -/
import Derived.Test.YtfminfgabiipjaaGreatDoorAd0
import Derived.Test.YtfminfgabiipjaaGreatDoorAd27
import Derived.Test.YtfminfgabiipjaaGreatDoorAd32
import Derived.Test.YtfminfgabiipjaaGreatDoorAd33
import Derived.Test.YtfminfgabiipjaaGreatDoorAd35
set_option maxRecDepth 100000
set_option maxHeartbeats 16000000
namespace Go.Proofs.YtfminfgabiipjaaGreatDoor.p4
open Go.RowKit
theorem qeh {z:Int} (h:z<0):(frac.wtxt z).size=(num z.natAbs).size+1:=by
 rw [frac.qfz h,ByteArray.size_append]
 have:(⟨#[45]⟩:ByteArray).size=1:=rfl
 omega
theorem qei {z:Int} (h:¬z<0):(frac.wtxt z).size=(num z.natAbs).size:=by rw [frac.qdO h]
theorem num_fit {x K:Nat} (h:Fit x K) (hK:0<K):(num x).size≤4*K:=by
 rw [qeC]
 refine qcs _ _ (by omega) ?_
 rw [←pow4];exact h
def qkI (w:World) (z:Int) (e:Ending) (w':World):Prop:=((num z.natAbs).size≤600∧e=.returned (.tuple #[.string (frac.wtxt z),.int .i64 0])∨¬(num z.natAbs).size≤600∧e=.returned (.tuple #[.string ⟨#[]⟩,.int .i64 6]))∧Below w.heap.size w w'
theorem qlK (z:Int) (K:Nat) (hK0:0<K) (hK:K≤17592186000000) (v:Value) (w:World) (hv:qbP w v z) (hz:Fit z.natAbs K) :
  Calls Tryz.prog 134 #[v] w fun e w'=>qkI w z e w':=by
 have HT:=qH (fun (W:World) (h:Below w.heap.size w W)=>qgo z K hK v W (hv.below h) hz)
 have hn:=num_fit hz hK0
 have hs1:=qeh (z:=z)
 have hs2:=qei (z:=z)
 obtain⟨m,rfl,am,bm,om,cm,nm,M,rfl,_,_⟩:=hv
 obtain⟨N,hN⟩:∃N,(num z.natAbs).size=N:=⟨_,rfl⟩
 obtain⟨S,hS⟩:∃S,frac.wtxt z=S:=⟨_,rfl⟩
 rw [hS] at HT hs1 hs2
 rw [hN] at hn hs1 hs2
 unfold qkI
 rw [hN,hS]
 obtain⟨L,hL⟩:∃L,S.size=L:=⟨_,rfl⟩
 rw [hL] at hs1 hs2
 obtain⟨b,hb⟩:∃b,decide (z<0)=b:=⟨_,rfl⟩
 rw [hb] at HT ⊢
 obtain⟨W1,hW1⟩:∃W1,W1=w.alloc (.cells #[.bool b,.slice am nm cm] 121):=⟨_,rfl⟩
 have hb1:Below w.heap.size w W1:=hW1▸qbI qB qN
 have hr1:W1.heap[w.heap.size]? = some (.cells #[.bool b,.slice am nm cm] 121 (0,0)):=by rw [hW1];exact qM _ _ _ rfl
 have H1:=qH (qA hb1 hr1)
 have hLN:L=if b=true then N+1 else N:=by
  subst hb
  by_cases h:z<0
  ·rw [decide_eq_true h,if_pos rfl];exact hs1 h
  ·rw [decide_eq_false h,if_neg (by decide)];exact hs2 h
 clear hb1 hr1 hs1 hs2 hS hN hb hz
 go_enter Tryz.func134,Tryz.ntmps134
 go_wp2_with fail
 rw [←hW1]
 clear hW1
 refine (HT.out _ H1.out.1).mono ?_
 rintro e w2 ⟨rfl,hb2⟩
 have hr2:=zkeep hb2 _ _ H1.out.2
 have k0:=cell_of_row w2 _ 0 _ _ _ hr2
 have HB:=qH (H1.out.1.trans (hb2.mono H1.out.1.size))
 clear hb2 hr2
 cases b with
 | true =>
  rw [if_pos rfl] at hLN
  subst hLN
  by_cases h6:N≤600
  ·have h6i:¬(600:Int)<((N+1:Nat):Int)-1:=by omega
   have h6j:¬(600:Int)<(N:Int)+1-1:=by omega
   have h6k:¬600<N:=by omega
   have H6:=qH h6
   clear h6
   go_wp2_with fail
   go_ret2
   exact⟨qau ⟨H6.out,rfl⟩,HB.out⟩
  ·have h6i:(600:Int)<((N+1:Nat):Int)-1:=by omega
   have h6j:(600:Int)<(N:Int)+1-1:=by omega
   have h6k:600<N:=by omega
   have H6:=qH h6
   clear h6
   go_wp2_with fail
   go_ret2
   exact⟨qaq ⟨H6.out,rfl⟩,HB.out⟩
 | false =>
  rw [if_neg (by decide)] at hLN
  subst hLN
  by_cases h6:L≤600
  ·have h6i:¬(600:Int)<(L:Int):=by omega
   have H6:=qH h6
   clear h6
   go_wp2_with fail
   go_ret2
   exact⟨qau ⟨H6.out,rfl⟩,HB.out⟩
  ·have h6i:(600:Int)<(L:Int):=by omega
   have H6:=qH h6
   clear h6
   go_wp2_with fail
   go_ret2
   exact⟨qaq ⟨H6.out,rfl⟩,HB.out⟩
theorem qin {w w':World} {z:Int} {e:Ending} (h:qkI w z e w'):∃(T:ByteArray) (c:Int),e=.returned (.tuple #[.string T,.int .i64 c])∧((num z.natAbs).size≤600∧T=frac.wtxt z∧c=0∨¬(num z.natAbs).size≤600∧T=⟨#[]⟩∧c=6)∧Below w.heap.size w w':=by
 obtain⟨h | h,hb⟩:=h
 ·exact⟨_,_,h.2,qau ⟨h.1,rfl,rfl⟩,hb⟩
 ·exact⟨_,_,h.2,qaq ⟨h.1,rfl,rfl⟩,hb⟩
theorem qgl (q:Rat) (K:Nat) (hK0:0<K) (hK:K≤17592186000000) (v:Value) (w:World) (hv:qbK w v q) (fn:Fit q.num.natAbs K) (fd:Fit q.den K) :
  Calls Tryz.prog 84 #[v] w fun e w'=>qgp w q e w':=by
 obtain⟨m,o,rfl,hm,ho⟩:=hv
 have hpn:∀W,Below w.heap.size w W→qbP W (.agg #[.bool (decide (q.num<0)),m]) q.num:=fun W h=>⟨m,rfl,hm.below h⟩
 have hpd:∀W,Below w.heap.size w W→qbP W (.agg #[.bool false,o]) (q.den:Int):=fun W h=>⟨o,by rw [decide_eq_false (by omega)],by simpa using ho.below h⟩
 have HN:=qH (fun (W:World) (h:Below w.heap.size w W)=>qlK q.num K hK0 hK _ W (hpn W h) fn)
 have HD:=qH (fun (W:World) (h:Below w.heap.size w W)=>qlK (q.den:Int) K hK0 hK _ W (hpd W h) (by simpa using fd))
 have hden:frac.wtxt (q.den:Int)=num q.den:=by
  rw [frac.qdO (show ¬(q.den:Int)<0 by omega),qax]
 have Hden:=qH hden
 generalize decide (q.num<0)=b at *
 obtain⟨am,bm,om,cm,nm,M,rfl,_,_⟩:=hm
 obtain⟨ao,bo,oo,co,no,O,rfl,_,_⟩:=ho
 clear hpn hpd fn fd hden
 obtain⟨W1,hW1⟩:∃W1,W1=(w.alloc (.cells #[.bool b,.slice am nm cm,.bool false,.slice ao no co] 123)).alloc (.cells #[.string ⟨#[]⟩,.string ⟨#[]⟩] 46):=⟨_,rfl⟩
 have hb1:Below w.heap.size w W1:=hW1▸qbI (qbI qB qN) qN
 have hr1:W1.heap[w.heap.size]? = some (.cells #[.bool b,.slice am nm cm,.bool false,.slice ao no co] 123 (0,0)):=by rw [hW1,qL _ _ _ (by simp only [qab];omega)];exact qM _ _ _ rfl
 have hr2:W1.heap[w.heap.size+1]? = some (.cells #[.string ⟨#[]⟩,.string ⟨#[]⟩] 46 (0,0)):=by rw [hW1];exact qM _ _ _ (by simp)
 have k0:=cell_of_row W1 _ 0 _ _ _ hr1
 have k1:=cell_of_row W1 _ 1 _ _ _ hr1
 have H1:=qH (qA hb1 (qA hr1 hr2))
 clear hb1 hr1 hr2
 go_enter Tryz.func84,Tryz.ntmps84
 go_wp2_with fail
 rw [←hW1]
 clear hW1
 go_wp2_with fail
 refine (HN.out _ H1.out.1).mono ?_
 intro e w2 h2
 obtain⟨T,c,rfl,hT,hb2⟩:=qin h2
 have hr1:=zkeep hb2 _ _ H1.out.2.1
 have k2:=cell_of_row w2 _ 2 _ _ _ hr1
 have k3:=cell_of_row w2 _ 3 _ _ _ hr1
 have H2:=qH (qA (H1.out.1.trans (hb2.mono H1.out.1.size)) (zkeep hb2 _ _ H1.out.2.2))
 clear hb2 hr1 h2 k0 k1
 go_wp2_with fail
 refine (HD.out _ H2.out.1).mono ?_
 intro e w3 h3
 obtain⟨T2,c2,rfl,hT2,hb3⟩:=qin h3
 rw [Hden.out,qax] at hT2
 have H3:=qH (qA (H2.out.1.trans (hb3.mono H2.out.1.size)) (zkeep hb3 _ _ H2.out.2))
 clear hb3 h3 k2 k3
 rcases hT with ⟨h1,hT1,rfl⟩ | ⟨h1,hT1,rfl⟩
 ·rcases hT2 with ⟨h2,hT3,rfl⟩ | ⟨h2,hT3,rfl⟩
  ·have HS:Hid (Short q):=qH ⟨h1,h2⟩
   have HE:Hid (Value.agg #[.string T,.string T2]=fstr q):=qH (by rw [hT1,hT3];rfl)
   clear h1 h2 hT1 hT3
   go_wp2_with ((with_reducible refine wpList_store_row rfl 46 _ _ rfl (w.heap.size+1) #[.string T,.string T2] ?_ ?_ 46 _ H3.out.2 2 ?_ ?_ ?_ ?_ ?_);(next=>rfl);(next=>rfl);(next=>kernel_rfl);(next=>rfl);(next=>rfl);(next=>rfl))
   exact bodyPost_ret (v:=.tuple #[.agg #[.string T,.string T2],.int .i64 0]) (qbS rfl _ _ (w.heap.size+1) 46 _ _ rfl (setRow_heap _ _ _ _ _ _ H3.out.2) Tryz.underlying46 rfl 2 (by kernel_rfl) rfl _ rfl) rfl ⟨qau ⟨HS.out,by rw [HE.out]⟩,below_setRow H3.out.1 (by omega) _⟩
  ·have HS:Hid (¬Short q):=qH (fun h=>h2 h.2)
   clear h1 h2 hT1 hT3
   go_wp2_with ((with_reducible refine wpList_store_row rfl 46 _ _ rfl (w.heap.size+1) #[.string ⟨#[]⟩,.string ⟨#[]⟩] ?_ ?_ 46 _ H3.out.2 2 ?_ ?_ ?_ ?_ ?_);(next=>rfl);(next=>rfl);(next=>kernel_rfl);(next=>rfl);(next=>rfl);(next=>rfl))
   exact bodyPost_ret (v:=.tuple #[.agg #[.string ⟨#[]⟩,.string ⟨#[]⟩],.int .i64 6]) (qbS rfl _ _ (w.heap.size+1) 46 _ _ rfl (setRow_heap _ _ _ _ _ _ H3.out.2) Tryz.underlying46 rfl 2 (by kernel_rfl) rfl _ rfl) rfl ⟨qaq ⟨HS.out,rfl⟩,below_setRow H3.out.1 (by omega) _⟩
 ·have HS:Hid (¬Short q):=qH (fun h=>h1 h.1)
  clear h1 hT1 hT2
  go_wp2_with ((with_reducible refine wpList_store_row rfl 46 _ _ rfl (w.heap.size+1) #[.string ⟨#[]⟩,.string ⟨#[]⟩] ?_ ?_ 46 _ H3.out.2 2 ?_ ?_ ?_ ?_ ?_);(next=>rfl);(next=>rfl);(next=>kernel_rfl);(next=>rfl);(next=>rfl);(next=>rfl))
  exact bodyPost_ret (v:=.tuple #[.agg #[.string ⟨#[]⟩,.string ⟨#[]⟩],.int .i64 6]) (qbS rfl _ _ (w.heap.size+1) 46 _ _ rfl (setRow_heap _ _ _ _ _ _ H3.out.2) Tryz.underlying46 rfl 2 (by kernel_rfl) rfl _ rfl) rfl ⟨qaq ⟨HS.out,rfl⟩,below_setRow H3.out.1 (by omega) _⟩
theorem of_pos (n d:Int) (hn:-9223372036854775808≤n∧n≤9223372036854775807) (hd:0<d) (hd2:d≤9223372036854775807) (w:World) :
  Calls Tryz.prog 135 #[.int .i64 n,.int .i64 d] w fun e w'=>qgp w (Rat.divInt n d) e w':=by
 have hq:=qgO n d (by omega)
 have fn:Fit (Rat.divInt n d).num.natAbs 5:=by
  rw [hq.1]
  show _<10000 ^ 5
  rw [show (10000:Nat) ^ 5=100000000000000000000 by decide]
  have:=qa5 n.natAbs (n.natAbs.gcd d.natAbs)
  generalize n.natAbs / n.natAbs.gcd d.natAbs=A at *
  split <;> omega
 have fd:Fit (Rat.divInt n d).den 5:=by
  rw [hq.2]
  show _<10000 ^ 5
  rw [show (10000:Nat) ^ 5=100000000000000000000 by decide]
  have:=qa5 d.natAbs (n.natAbs.gcd d.natAbs)
  omega
 have HQ:=qH (fun (W:World)=>qfo n d hn hd hd2 W)
 have HO:=qH (fun (W:World) (v:Value) (hv:qbK W v (Rat.divInt n d))=>qgl _ 5 (by decide) (by decide) v W hv fn fd)
 have hd0:(d == 0)=false:=by rw [beq_eq_false_iff_ne];omega
 generalize Rat.divInt n d=q at *
 obtain⟨W1,hW1⟩:∃W1,W1=w.alloc (.cells #[.string ⟨#[]⟩,.string ⟨#[]⟩] 46):=⟨_,rfl⟩
 have hb1:Below w.heap.size w W1:=hW1▸qbI qB qN
 have hr1:W1.heap[w.heap.size]? = some (.cells #[.string ⟨#[]⟩,.string ⟨#[]⟩] 46 (0,0)):=by rw [hW1];exact qM _ _ _ rfl
 have H1:=qH (qA hb1 hr1)
 clear hq fn fd hb1 hr1
 go_enter Tryz.func135,Tryz.ntmps135
 go_wp2_with fail
 rw [←hW1]
 clear hW1
 refine (HQ.out _).mono ?_
 rintro e w2 ⟨v2,rfl,hb2,hv2⟩
 have H2:=qH (qA (H1.out.1.trans (hb2.mono H1.out.1.size)) (qA (zkeep hb2 _ _ H1.out.2) hv2))
 obtain⟨b4,a4,n4,c4,a5,n5,c5,rfl⟩:=hv2.shape
 clear hb2 hv2
 go_wp2_with fail
 refine (HO.out _ _ H2.out.2.2).mono ?_
 intro e w3 h3
 obtain⟨x1,x2,c,rfl,hc,hb3⟩:=qcv h3
 have rr:=zkeep hb3 _ _ H2.out.2.1
 have hbw:=H2.out.1.trans (hb3.mono H2.out.1.size)
 have H3:=qH (qA rr (below_setRow hbw qN #[.string x1,.string x2]))
 have HC:=qH hc
 clear h3 hb3 rr hbw hc
 go_wp2_with ((with_reducible refine wpList_store_row rfl 46 _ _ rfl (w.heap.size) #[.string x1,.string x2] ?_ ?_ 46 _ H3.out.1 2 ?_ ?_ ?_ ?_ ?_);(next=>rfl);(next=>rfl);(next=>kernel_rfl);(next=>rfl);(next=>rfl);(next=>rfl))
 refine bodyPost_ret (v:=.tuple #[.agg #[.string x1,.string x2],.int .i64 c]) (qbS rfl _ _ (w.heap.size) 46 _ _ rfl (setRow_heap _ _ _ _ _ _ H3.out.1) Tryz.underlying46 rfl 2 (by kernel_rfl) rfl _ rfl) rfl ⟨?_,H3.out.2⟩
 rcases HC.out with ⟨h1,h2,rfl⟩ | ⟨h1,h2,rfl⟩
 ·exact qau ⟨h1,by rw [qdI,←h2]⟩
 ·refine qaq ⟨h1,?_⟩
  cases h2;rfl
end Go.Proofs.YtfminfgabiipjaaGreatDoor.p4
namespace Go.Proofs.YtfminfgabiipjaaGreatDoor
open Go.RowKit
structure KCells (W:World) (kd:IntKind) (ao:Option Addr) (b off:Nat) (L:List Int):Prop where
 addr:0<L.length→ao=some ⟨b,off,none⟩
 cell:∀k,k<L.length→W.cell? ⟨b,off+k,none⟩=some (.int kd (L.getD k 0))
theorem KCells.below {W W':World} {kd:IntKind} {ao:Option Addr} {b off:Nat} {L:List Int} (h:KCells W kd ao b off L) (hb:Below W.heap.size W W'):KCells W' kd ao b off L :=
 ⟨h.addr,fun k hk=>(hb.cell (qac W _ (h.cell k hk))).trans (h.cell k hk)⟩
def ints (D:List Nat):List Int:=D.map fun (d:Nat)=>(d:Int)
def qc2 (W:World) (v:Value) (r c:Nat) (N:List Int) (D:List Nat):Prop :=
 ∃(a:Option Addr) (b off n cc:Nat) (a':Option Addr) (b' off' n' cc':Nat),v=.agg #[.int .u8 (r:Int),.int .u8 (c:Int),.slice a n cc,.slice a' n' cc']∧r<256∧c<256 ∧
  N.length=n∧n≤cc∧n≤9223372036854775807∧D.length=n'∧n'≤cc'∧n'≤9223372036854775807∧KCells W .i8 a b off N∧KCells W .u8 a' b' off' (ints D)∧(∀k,-128≤N.getD k 0∧N.getD k 0≤127)∧(∀k,D.getD k 0<256)
theorem qc2.below {W W':World} {v:Value} {r c:Nat} {N:List Int} {D:List Nat} (h:qc2 W v r c N D) (hb:Below W.heap.size W W'):qc2 W' v r c N D:=by
 obtain⟨a,b,off,n,cc,a',b',off',n',cc',rfl,h1,h2,h3,h4,h5,h6,h7,h8,h9,h10,h11,h12⟩:=h
 exact⟨a,b,off,n,cc,a',b',off',n',cc',rfl,h1,h2,h3,h4,h5,h6,h7,h8,h9.below hb,h10.below hb,h11,h12⟩
theorem qif (D:List Nat) (k:Nat):(ints D).getD k 0=(D.getD k 0:Nat):=by
 unfold ints
 rw [qaa,qaa,qaN]
 cases D[k]? <;> rfl
theorem qge (D:List Nat):(ints D).length=D.length:=qaD _
theorem qcy (k:Nat) (_hk:k≤1000000) (r c:Nat) (N:List Int) (D:List Nat) (v:Value) (w:World) (hv:qc2 w v r c N D) :
  Calls Tryz.prog 85 #[v,.int .i64 (k:Int)] w fun e w'=>e=.returned (fstr (drq N D k))∧Below w.heap.size w w':=by
 obtain⟨a,b,off,n,cc,a',b',off',n',cc',rfl,hr,hc,hN,hcap,hn,hD,hcap',hn',CN,CD,RN,RD⟩:=hv
 obtain⟨W1,hW1⟩:∃W1,W1=(w.alloc (.cells #[.int .u8 (r:Int),.int .u8 (c:Int),.slice a n cc,.slice a' n' cc'] 29)).alloc (.cells #[.string ⟨#[]⟩,.string ⟨#[]⟩] 46):=⟨_,rfl⟩
 have hb1:Below w.heap.size w W1:=hW1▸qbI (qbI qB qN) qN
 have hr1:W1.heap[w.heap.size]? = some (.cells #[.int .u8 (r:Int),.int .u8 (c:Int),.slice a n cc,.slice a' n' cc'] 29 (0,0)):=by rw [hW1,qL _ _ _ (by simp only [qab];omega)];exact qM _ _ _ rfl
 have hr2:W1.heap[w.heap.size+1]? = some (.cells #[.string ⟨#[]⟩,.string ⟨#[]⟩] 46 (0,0)):=by rw [hW1];exact qM _ _ _ (by simp)
 have k2:=cell_of_row W1 _ 2 _ _ _ hr1
 have H1:=qH (qA hb1 (qA hr1 hr2))
 have HN:=qH (qA hN (qA (CN.below hb1) RN))
 have HD:=qH (qA hD (qA (CD.below hb1) RD))
 obtain⟨x,hx⟩:∃x,drn N k=x:=⟨_,rfl⟩
 obtain⟨y,hy⟩:∃y,drm D k=y:=⟨_,rfl⟩
 have HX:=qH hx
 have HY:=qH hy
 have hxl:=drn_le N k
 have hyl:=drm_le D k
 have hsh:=(qg8 N D k).short
 have hq:drq N D k=Rat.divInt x y:=by unfold drq;rw [hx,hy]
 rw [hx] at hxl
 rw [hy] at hyl
 rw [hq] at hsh ⊢
 have ho:=fun (W:World)=>p4.of_pos x y (by omega) (by omega) (by omega) W
 generalize Rat.divInt x (y:Int)=Q at *
 have HO:=qH ho
 clear ho
 have HS:=qH hsh
 have hx1:-20≤x∧x≤20:=by omega
 clear hb1 hr2 hN CN RN hD CD RD hx hy hsh hq hxl
 go_enter Tryz.func85,Tryz.ntmps85
 go_upto_region 2 with fail
 rw [←hW1]
 clear hW1
 have k3:=cell_of_row W1 _ 3 _ _ _ hr1
 by_cases h0:n=0
 ·have hx2:x=1:=by
   rw [←HX.out];unfold drn;rw [if_pos (by rw [HN.out.1];exact h0)]
  subst h0
  subst hx2
  by_cases h0':n'=0
  ·have hy2:y=1:=by
    rw [←HY.out];unfold drm;rw [if_pos (by rw [HD.out.1];exact h0')]
   subst h0'
   subst hy2
   go_wp2_with fail
   refine (HO.out _).mono ?_
   intro e w3 h3
   obtain⟨x1,x2,cd,rfl,hcd,hb3⟩:=qcv h3
   have hbW:Below W1.heap.size W1 w3:=((Below.refl W1.heap.size W1)).trans (hb3.mono qN)
   have hE:(x1,x2)=ftxt (Q):=by
    rcases hcd with ⟨_,h,_⟩ | ⟨h,_⟩
    ·exact h
    ·exact absurd HS.out h
   have HE:Hid (Value.agg #[.string x1,.string x2]=fstr (Q)):=qH (by rw [qdI,←hE])
   obtain⟨W4,hW4⟩:∃W4,W4=w3.alloc (.cells #[.string x1,.string x2] 46):=⟨_,rfl⟩
   have hb4:Below W1.heap.size W1 W4:=hW4▸qbI hbW qN
   have r4:W4.heap[w3.heap.size]? = some (.cells #[.string x1,.string x2] 46 (0,0)):=by rw [hW4];exact qM _ _ _ rfl
   have r5:=zkeep hb4 _ _ H1.out.2.2
   have hbw:Below w.heap.size w W4:=H1.out.1.trans (hb4.mono H1.out.1.size)
   have HX2:=qH (qA r5 (below_setRow hbw (show w.heap.size≤w.heap.size+1 by omega) #[.string x1,.string x2]))
   have r4':=r4
   have r5':=r5
   rw [hW4] at r4' r5'
   have HR4:=qH (qA r4' r5')
   have HW4:=qH hW4
   clear h3 hcd hb3 hbW hE hW4 hb4 r4 r5 hbw r4' r5'
   go_wp2_with (first | ((with_reducible refine qbJ rfl 46 _ rfl (w3.heap.size) ?_ 46 #[.string x1,.string x2] _ HR4.out.1 Tryz.underlying46 ?_ 2 ?_ ?_ ?_);(next=>rfl);(next=>rfl);(next=>kernel_rfl);(next=>rfl)) | ((with_reducible refine wpList_store_row rfl 46 _ _ rfl (w.heap.size+1) #[.string x1,.string x2] ?_ ?_ 46 _ HR4.out.2 2 ?_ ?_ ?_ ?_ ?_);(next=>rfl);(next=>rfl);(next=>kernel_rfl);(next=>rfl);(next=>rfl);(next=>rfl)))
   rw [←HW4.out]
   exact bodyPost_ret (v:=.agg #[.string x1,.string x2]) (qbN rfl _ _ (w.heap.size+1) 46 _ _ rfl (setRow_heap _ _ _ _ _ _ HX2.out.1) Tryz.underlying46 rfl 2 (by kernel_rfl) rfl) rfl ⟨by rw [HE.out],HX2.out.2⟩
  ·skip
   obtain⟨m',hm'⟩:∃m',min n' 60=m':=⟨_,rfl⟩
   obtain⟨q',hq'⟩:∃q',k % m'=q':=⟨_,rfl⟩
   have hm0':0<m':=by omega
   have hql':q'<m':=by rw [←hq'];exact qa9 _ hm0'
   have hqn':(q':Int)<n':=by omega
   have hn0':0<n':=by omega
   have haw':=HD.out.2.1.addr (by rw [qge,HD.out.1];exact hn0')
   subst haw'
   have hcl':=(HD.out.2.1.below (Below.refl W1.heap.size W1)).cell q' (by rw [qge,HD.out.1];omega)
   rw [qif] at hcl'
   have hrg':=HD.out.2.2 q'
   have hyy:1+D.getD q' 0 % 6=y:=by
    rw [←HY.out];unfold drm
    rw [if_neg (by rw [HD.out.1];exact h0'),HD.out.1,hm',hq']
   obtain⟨z',hz'⟩:∃z',D.getD q' 0=z':=⟨_,rfl⟩
   rw [hz'] at hcl' hrg' hyy
   obtain⟨t,ht⟩:∃t,z' % 6=t:=⟨_,rfl⟩
   have gt1:(z':Int) % 6=t:=by omega
   have gt2:1+(t:Int)=y:=by omega
   have gt3:t<6:=by omega
   have g1':min (n':Int) 60=m':=by omega
   have g2':(k:Int) % m'=q':=by rw [←hq'];omega
   have g3':(k:Int).tmod m'=q':=by rw [←hq'];rfl
   have g4':((m':Int) == 0)=false:=by rw [beq_eq_false_iff_ne];omega
   have g5':¬(m':Int)=0:=by omega
   have g6':¬m'=0:=by omega
   have g7':(0:Int)<n':=by omega
   clear hz' hq' hm' h0' ht hyy
   go_wp2_with fail
   go_region
   go_wp2_with fail
   refine (HO.out _).mono ?_
   intro e w3 h3
   obtain⟨x1,x2,cd,rfl,hcd,hb3⟩:=qcv h3
   have hbW:Below W1.heap.size W1 w3:=(((Below.refl W1.heap.size W1)).drew).trans (hb3.mono qN)
   have hE:(x1,x2)=ftxt (Q):=by
    rcases hcd with ⟨_,h,_⟩ | ⟨h,_⟩
    ·exact h
    ·exact absurd HS.out h
   have HE:Hid (Value.agg #[.string x1,.string x2]=fstr (Q)):=qH (by rw [qdI,←hE])
   obtain⟨W4,hW4⟩:∃W4,W4=w3.alloc (.cells #[.string x1,.string x2] 46):=⟨_,rfl⟩
   have hb4:Below W1.heap.size W1 W4:=hW4▸qbI hbW qN
   have r4:W4.heap[w3.heap.size]? = some (.cells #[.string x1,.string x2] 46 (0,0)):=by rw [hW4];exact qM _ _ _ rfl
   have r5:=zkeep hb4 _ _ H1.out.2.2
   have hbw:Below w.heap.size w W4:=H1.out.1.trans (hb4.mono H1.out.1.size)
   have HX2:=qH (qA r5 (below_setRow hbw (show w.heap.size≤w.heap.size+1 by omega) #[.string x1,.string x2]))
   have r4':=r4
   have r5':=r5
   rw [hW4] at r4' r5'
   have HR4:=qH (qA r4' r5')
   have HW4:=qH hW4
   clear h3 hcd hb3 hbW hE hW4 hb4 r4 r5 hbw r4' r5'
   go_wp2_with (first | ((with_reducible refine qbJ rfl 46 _ rfl (w3.heap.size) ?_ 46 #[.string x1,.string x2] _ HR4.out.1 Tryz.underlying46 ?_ 2 ?_ ?_ ?_);(next=>rfl);(next=>rfl);(next=>kernel_rfl);(next=>rfl)) | ((with_reducible refine wpList_store_row rfl 46 _ _ rfl (w.heap.size+1) #[.string x1,.string x2] ?_ ?_ 46 _ HR4.out.2 2 ?_ ?_ ?_ ?_ ?_);(next=>rfl);(next=>rfl);(next=>kernel_rfl);(next=>rfl);(next=>rfl);(next=>rfl)))
   rw [←HW4.out]
   exact bodyPost_ret (v:=.agg #[.string x1,.string x2]) (qbN rfl _ _ (w.heap.size+1) 46 _ _ rfl (setRow_heap _ _ _ _ _ _ HX2.out.1) Tryz.underlying46 rfl 2 (by kernel_rfl) rfl) rfl ⟨by rw [HE.out],HX2.out.2⟩
 ·skip
  obtain⟨m,hm⟩:∃m,min n 60=m:=⟨_,rfl⟩
  obtain⟨q,hq⟩:∃q,k % m=q:=⟨_,rfl⟩
  have hm0:0<m:=by omega
  have hql:q<m:=by rw [←hq];exact qa9 _ hm0
  have hqn:(q:Int)<n:=by omega
  have hn0:0<n:=by omega
  have haw:=HN.out.2.1.addr (by rw [HN.out.1];exact hn0)
  subst haw
  have hcl:=HN.out.2.1.cell q (by rw [HN.out.1];omega)
  have hrg:=HN.out.2.2 q
  have hxx:(N.getD q 0).tmod 21=x:=by
   rw [←HX.out];unfold drn
   rw [if_neg (by rw [HN.out.1];exact h0),HN.out.1,hm,hq]
  obtain⟨z,hz⟩:∃z,N.getD q 0=z:=⟨_,rfl⟩
  rw [hz] at hcl hrg hxx
  have hz1:=hrg.1
  have hz2:=hrg.2
  have g1:min (n:Int) 60=m:=by omega
  have g2:(k:Int) % m=q:=by rw [←hq];omega
  have g3:(k:Int).tmod m=q:=by rw [←hq];rfl
  have g4:((m:Int) == 0)=false:=by rw [beq_eq_false_iff_ne];omega
  have g5:¬(m:Int)=0:=by omega
  have g6:¬m=0:=by omega
  have g7:(0:Int)<n:=by omega
  clear hz hrg hq hm h0
  go_wp2_with fail
  go_region
  by_cases h0':n'=0
  ·have hy2:y=1:=by
    rw [←HY.out];unfold drm;rw [if_pos (by rw [HD.out.1];exact h0')]
   subst h0'
   subst hy2
   go_wp2_with fail
   refine (HO.out _).mono ?_
   intro e w3 h3
   obtain⟨x1,x2,cd,rfl,hcd,hb3⟩:=qcv h3
   have hbW:Below W1.heap.size W1 w3:=((Below.refl W1.heap.size W1).drew).trans (hb3.mono qN)
   have hE:(x1,x2)=ftxt (Q):=by
    rcases hcd with ⟨_,h,_⟩ | ⟨h,_⟩
    ·exact h
    ·exact absurd HS.out h
   have HE:Hid (Value.agg #[.string x1,.string x2]=fstr (Q)):=qH (by rw [qdI,←hE])
   obtain⟨W4,hW4⟩:∃W4,W4=w3.alloc (.cells #[.string x1,.string x2] 46):=⟨_,rfl⟩
   have hb4:Below W1.heap.size W1 W4:=hW4▸qbI hbW qN
   have r4:W4.heap[w3.heap.size]? = some (.cells #[.string x1,.string x2] 46 (0,0)):=by rw [hW4];exact qM _ _ _ rfl
   have r5:=zkeep hb4 _ _ H1.out.2.2
   have hbw:Below w.heap.size w W4:=H1.out.1.trans (hb4.mono H1.out.1.size)
   have HX2:=qH (qA r5 (below_setRow hbw (show w.heap.size≤w.heap.size+1 by omega) #[.string x1,.string x2]))
   have r4':=r4
   have r5':=r5
   rw [hW4] at r4' r5'
   have HR4:=qH (qA r4' r5')
   have HW4:=qH hW4
   clear h3 hcd hb3 hbW hE hW4 hb4 r4 r5 hbw r4' r5'
   go_wp2_with (first | ((with_reducible refine qbJ rfl 46 _ rfl (w3.heap.size) ?_ 46 #[.string x1,.string x2] _ HR4.out.1 Tryz.underlying46 ?_ 2 ?_ ?_ ?_);(next=>rfl);(next=>rfl);(next=>kernel_rfl);(next=>rfl)) | ((with_reducible refine wpList_store_row rfl 46 _ _ rfl (w.heap.size+1) #[.string x1,.string x2] ?_ ?_ 46 _ HR4.out.2 2 ?_ ?_ ?_ ?_ ?_);(next=>rfl);(next=>rfl);(next=>kernel_rfl);(next=>rfl);(next=>rfl);(next=>rfl)))
   rw [←HW4.out]
   exact bodyPost_ret (v:=.agg #[.string x1,.string x2]) (qbN rfl _ _ (w.heap.size+1) 46 _ _ rfl (setRow_heap _ _ _ _ _ _ HX2.out.1) Tryz.underlying46 rfl 2 (by kernel_rfl) rfl) rfl ⟨by rw [HE.out],HX2.out.2⟩
  ·skip
   obtain⟨m',hm'⟩:∃m',min n' 60=m':=⟨_,rfl⟩
   obtain⟨q',hq'⟩:∃q',k % m'=q':=⟨_,rfl⟩
   have hm0':0<m':=by omega
   have hql':q'<m':=by rw [←hq'];exact qa9 _ hm0'
   have hqn':(q':Int)<n':=by omega
   have hn0':0<n':=by omega
   have haw':=HD.out.2.1.addr (by rw [qge,HD.out.1];exact hn0')
   subst haw'
   have hcl':=(HD.out.2.1.below (Below.refl W1.heap.size W1).drew).cell q' (by rw [qge,HD.out.1];omega)
   rw [qif] at hcl'
   have hrg':=HD.out.2.2 q'
   have hyy:1+D.getD q' 0 % 6=y:=by
    rw [←HY.out];unfold drm
    rw [if_neg (by rw [HD.out.1];exact h0'),HD.out.1,hm',hq']
   obtain⟨z',hz'⟩:∃z',D.getD q' 0=z':=⟨_,rfl⟩
   rw [hz'] at hcl' hrg' hyy
   obtain⟨t,ht⟩:∃t,z' % 6=t:=⟨_,rfl⟩
   have gt1:(z':Int) % 6=t:=by omega
   have gt2:1+(t:Int)=y:=by omega
   have gt3:t<6:=by omega
   have g1':min (n':Int) 60=m':=by omega
   have g2':(k:Int) % m'=q':=by rw [←hq'];omega
   have g3':(k:Int).tmod m'=q':=by rw [←hq'];rfl
   have g4':((m':Int) == 0)=false:=by rw [beq_eq_false_iff_ne];omega
   have g5':¬(m':Int)=0:=by omega
   have g6':¬m'=0:=by omega
   have g7':(0:Int)<n':=by omega
   clear hz' hq' hm' h0' ht hyy
   go_wp2_with fail
   go_region
   go_wp2_with fail
   refine (HO.out _).mono ?_
   intro e w3 h3
   obtain⟨x1,x2,cd,rfl,hcd,hb3⟩:=qcv h3
   have hbW:Below W1.heap.size W1 w3:=(((Below.refl W1.heap.size W1).drew).drew).trans (hb3.mono qN)
   have hE:(x1,x2)=ftxt (Q):=by
    rcases hcd with ⟨_,h,_⟩ | ⟨h,_⟩
    ·exact h
    ·exact absurd HS.out h
   have HE:Hid (Value.agg #[.string x1,.string x2]=fstr (Q)):=qH (by rw [qdI,←hE])
   obtain⟨W4,hW4⟩:∃W4,W4=w3.alloc (.cells #[.string x1,.string x2] 46):=⟨_,rfl⟩
   have hb4:Below W1.heap.size W1 W4:=hW4▸qbI hbW qN
   have r4:W4.heap[w3.heap.size]? = some (.cells #[.string x1,.string x2] 46 (0,0)):=by rw [hW4];exact qM _ _ _ rfl
   have r5:=zkeep hb4 _ _ H1.out.2.2
   have hbw:Below w.heap.size w W4:=H1.out.1.trans (hb4.mono H1.out.1.size)
   have HX2:=qH (qA r5 (below_setRow hbw (show w.heap.size≤w.heap.size+1 by omega) #[.string x1,.string x2]))
   have r4':=r4
   have r5':=r5
   rw [hW4] at r4' r5'
   have HR4:=qH (qA r4' r5')
   have HW4:=qH hW4
   clear h3 hcd hb3 hbW hE hW4 hb4 r4 r5 hbw r4' r5'
   go_wp2_with (first | ((with_reducible refine qbJ rfl 46 _ rfl (w3.heap.size) ?_ 46 #[.string x1,.string x2] _ HR4.out.1 Tryz.underlying46 ?_ 2 ?_ ?_ ?_);(next=>rfl);(next=>rfl);(next=>kernel_rfl);(next=>rfl)) | ((with_reducible refine wpList_store_row rfl 46 _ _ rfl (w.heap.size+1) #[.string x1,.string x2] ?_ ?_ 46 _ HR4.out.2 2 ?_ ?_ ?_ ?_ ?_);(next=>rfl);(next=>rfl);(next=>kernel_rfl);(next=>rfl);(next=>rfl);(next=>rfl)))
   rw [←HW4.out]
   exact bodyPost_ret (v:=.agg #[.string x1,.string x2]) (qbN rfl _ _ (w.heap.size+1) 46 _ _ rfl (setRow_heap _ _ _ _ _ _ HX2.out.1) Tryz.underlying46 rfl 2 (by kernel_rfl) rfl) rfl ⟨by rw [HE.out],HX2.out.2⟩
end Go.Proofs.YtfminfgabiipjaaGreatDoor
namespace Go.Proofs.YtfminfgabiipjaaGreatDoor.p4
open Go.RowKit
theorem row_set4 {W:World} {g:Nat} {t:TypeId} {b0 b1:Bool} {a0 a1:Option Addr} {n0 c0 n1 c1:Nat} (h:W.heap[g]? = some (.cells #[.bool b0,.slice a0 n0 c0,.bool b1,.slice a1 n1 c1] t (0,0))) (b:Bool) (a:Option Addr) (n c:Nat) (b':Bool) (a':Option Addr) (n' c':Nat) :
  ((((W.setCell ⟨g,0,none⟩ (.bool b)).setCell ⟨g,1,none⟩ (.slice a n c)).setCell ⟨g,2,none⟩ (.bool b')).setCell ⟨g,3,none⟩ (.slice a' n' c')).heap[g]? = some (.cells #[.bool b,.slice a n c,.bool b',.slice a' n' c'] t (0,0)) :=
 heap_setCell_same _ g 3 _ t _ (heap_setCell_same _ g 2 _ t _ (heap_setCell_same _ g 1 _ t _ (heap_setCell_same _ g 0 _ t _ h)))
theorem qcN {W W':World} {v:Value} {q:Rat} {g:Nat} {cs:Array Value} {t:TypeId} {fz:Nat×Nat} (h:qbK W v q) (hk:W.grownBy W' (some g)) (hg:W.heap[g]? = some (.cells cs t fz)) (hne:∀x∈cs.toList,∀d,x≠.int .i64 d):qbK W' v q:=by
 obtain⟨m,o,h1,h2,h3⟩:=h
 exact⟨m,o,h1,qcj h2 hk hg hne,qcj h3 hk hg hne⟩
theorem qkr {W:World} {v:Value} {q:Rat} {g:Nat} {t:TypeId} {b0 b1:Bool} {a0 a1:Option Addr} {n0 c0 n1 c1:Nat} (hi:qbK W v q) (h:W.heap[g]? = some (.cells #[.bool b0,.slice a0 n0 c0,.bool b1,.slice a1 n1 c1] t (0,0))) (b:Bool) (a:Option Addr) (n c:Nat) (b':Bool) (a':Option Addr) (n' c':Nat) :
  qbK ((((W.setCell ⟨g,0,none⟩ (.bool b)).setCell ⟨g,1,none⟩ (.slice a n c)).setCell ⟨g,2,none⟩ (.bool b')).setCell ⟨g,3,none⟩ (.slice a' n' c')) v q :=
 qcN (qcN (qcN (qcN hi (qbO W g 0 _) h (nd4 _ _ _ _ _ _ _ _)) (qbO _ g 1 _) (heap_setCell_same _ g 0 _ t _ h) (nd4 b b1 a0 a1 n0 n1 c0 c1)) (qbO _ g 2 _) (heap_setCell_same _ g 1 _ t _ (heap_setCell_same _ g 0 _ t _ h)) (nd4 b b1 a a1 n n1 c c1)) (qbO _ g 3 _) (heap_setCell_same _ g 2 _ t _ (heap_setCell_same _ g 1 _ t _ (heap_setCell_same _ g 0 _ t _ h))) (nd4 b b' a a1 n n1 c c1)
theorem qhO (n d:ByteArray) (hf:FOk n.data.toList d.data.toList) (w:World) :
  Calls Tryz.prog 81 #[.agg #[.string n,.string d]] w fun e w'=>∃v,e=.returned v∧Below w.heap.size w w'∧qbK w' v (fval n.data.toList d.data.toList):=by
 have HN1:=qH (fun (W:World)=>qju n hf.vn W)
 have HN2:=qH (fun (W:World)=>qju d hf.vd W)
 have hval:=hf.val
 have hpos:=hf.pos
 have HV:=qH (qA hval hpos)
 obtain⟨W1,hW1⟩:∃W1,W1=(w.alloc (.cells #[.string n,.string d] 46)).alloc (.cells #[.bool false,.slice none 0 0,.bool false,.slice none 0 0] 123):=⟨_,rfl⟩
 have hb1:Below w.heap.size w W1:=hW1▸qbI (qbI qB qN) qN
 have hr0:W1.heap[w.heap.size]? = some (.cells #[.string n,.string d] 46 (0,0)):=by rw [hW1,qL _ _ _ (by simp only [qab];omega)];exact qM _ _ _ rfl
 have hr:W1.heap[w.heap.size+1]? = some (.cells #[.bool false,.slice none 0 0,.bool false,.slice none 0 0] 123 (0,0)):=by rw [hW1];exact qM _ _ _ (by simp)
 have l2:w.heap.size+1<W1.heap.size:=(qG hr).1
 have C0:∀W,Below (w.heap.size+1) W1 W→W.cell? ⟨w.heap.size,0,none⟩=some (.string n):=fun W h=>(h.cell (p:=⟨w.heap.size,0,none⟩) (by show w.heap.size<_;omega)).trans (cell_of_row _ _ 0 _ _ _ hr0)
 have C1:∀W,Below (w.heap.size+1) W1 W→W.cell? ⟨w.heap.size,1,none⟩=some (.string d):=fun W h=>(h.cell (p:=⟨w.heap.size,1,none⟩) (by show w.heap.size<_;omega)).trans (cell_of_row _ _ 1 _ _ _ hr0)
 have hrefl:Below (w.heap.size+1) W1 W1:=Below.refl _ _
 have hstD:Below (w.heap.size+1) W1 W1.drew:=hrefl.drew
 have HR:=qH (qA hb1 hr)
 have Hl2:=qH l2
 clear hr0 hr hb1 hval hpos hf
 go_enter Tryz.func81,Tryz.ntmps81
 go_wp2_with fail
 rw [←hW1]
 clear hW1
 go_region_held3 (fun W=>Below (w.heap.size+1) W1 W) (first | with_reducible exact hrefl | with_reducible exact hstD | with_reducible exact HB3 | with_reducible exact HB2 | ((iterate 4 refine Below.setCell ?_ (by exact qae _) _);exact HB3)) (first | (go_at_call_of 131 (Value.string n);refine (HN1.out _).mono ?_;rintro e w2 ⟨p2,rfl,hb2,hp2⟩;have HB2:Below (w.heap.size+1) W1 w2:=hstD.trans (hb2.mono (qar (qaj Hl2.out hrefl.size)));obtain⟨b2,a2,n2,c2,rfl⟩:=hp2.shape;have HP2:=qH (qA hp2 ((hb2.block _ (qaj Hl2.out hrefl.size)).trans HR.out.2));clear hb2 hp2) | (go_at_call_of 131 (Value.string d);refine (HN2.out _).mono ?_;rintro e w3 ⟨p3,rfl,hb3,hp3⟩;have HB3:Below (w.heap.size+1) W1 w3:=HB2.trans (hb3.mono (qai (qar Hl2.out) HB2.size));obtain⟨b9,a9,n9,c9,rfl⟩:=hp3.shape;have hz3:=(hb3.block _ (qaj Hl2.out HB2.size)).trans HP2.out.2;have e0:=cell_of_row w3 _ 0 _ _ _ hz3;have e1:=cell_of_row w3 _ 1 _ _ _ hz3;have e2:=cell_of_row w3 _ 2 _ _ _ hz3;have e3:=cell_of_row w3 _ 3 _ _ _ hz3;have f0:=frozen_of_row w3 _ 0 _ _ hz3;have f1:=frozen_of_row w3 _ 1 _ _ hz3;have f2:=frozen_of_row w3 _ 2 _ _ hz3;have f3:=frozen_of_row w3 _ 3 _ _ hz3;have HP3:=qH (qA (HP2.out.1.below hb3) (qA hp3 hz3));clear hb3 hp3 hz3))
 go_wp2_with fail
 have hd:ival d.data.toList=((fval n.data.toList d.data.toList).den:Int):=by rw [HV.out.1.2];have:=HV.out.2;omega
 have hq:=qgP (q:=fval n.data.toList d.data.toList) HP3.out.1 HP3.out.2.1 HV.out.1.1.symm hd
 have hb9:b9=false:=by
  obtain⟨m6,o6,h6,_⟩:=hq
  simp only [qaQ,qaP,qaI,qbz] at h6
  exact h6.2.2.1
 exact bodyPost_ret (v:=.agg #[.bool b2,.slice a2 n2 c2,.bool b9,.slice a9 n9 c9]) (qbN rfl _ _ (w.heap.size+1) 123 _ _ rfl (row_set4 HP3.out.2.2 b2 a2 n2 c2 b9 a9 n9 c9) Tryz.underlying123 rfl 4 (by kernel_rfl) rfl) rfl ⟨_,rfl,HR.out.1.trans (((((HB3.setCell (by exact qae _) _).setCell (by exact qae _) _).setCell (by exact qae _) _).setCell (by exact qae _) _).mono (by omega)),qkr hq HP3.out.2.2 b2 a2 n2 c2 b9 a9 n9 c9⟩
def RRightAs (w:World) (n d:List UInt8) (e:Ending) (w':World):Prop:=∃ok,e=.returned (.bool ok)∧(ok=true↔FOk n d)∧Below w.heap.size w w'
theorem wtxt_one {G:Nat}:frac.wtxt (G:Int)=⟨#[49]⟩↔G=1:=by
 have h1:frac.wtxt (1:Int)=⟨#[49]⟩:=by
  rw [frac.qdO (by decide)]
  unfold num
  rw [show (1:Int).natAbs=1 from rfl,qb0 (by decide)];rfl
 constructor
 ·intro h
  have h2:itxt (G:Int)=itxt (1:Int):=by
   have:=congrArg (fun b:ByteArray=>b.data.toList) (h.trans h1.symm)
   exact this
  have h3:=congrArg ival h2
  rw [qc9,qc9] at h3
  omega
 ·rintro rfl;exact h1
theorem ne_lists {a b:ByteArray} (h:a≠b):(a.toList == b.toList)=false:=by
 rw [beq_eq_false_iff_ne,ByteArray.toList_eq,ByteArray.toList_eq]
 intro e
 apply h
 obtain⟨⟨x⟩⟩:=a
 obtain⟨⟨y⟩⟩:=b
 cases e;rfl
theorem qhm (n d:ByteArray) (hn:n.size≤140737488355328) (hd:d.size≤140737488355328) (w:World) :
  Calls Tryz.prog 113 #[.agg #[.string n,.string d]] w fun e w'=>RRightAs w n.data.toList d.data.toList e w':=by
 have HN1:=qH (fun (W:World)=>qix n hn W)
 have HN2:=qH (fun (W:World)=>qix d hd W)
 obtain⟨W1,hW1⟩:∃W1,W1=w.alloc (.cells #[.string n,.string d] 46):=⟨_,rfl⟩
 have hb1:Below w.heap.size w W1:=hW1▸qbI qB qN
 have hr0:W1.heap[w.heap.size]? = some (.cells #[.string n,.string d] 46 (0,0)):=by rw [hW1];exact qM _ _ _ rfl
 have k0:=cell_of_row W1 _ 0 _ _ _ hr0
 have k1:=cell_of_row W1 _ 1 _ _ _ hr0
 have HR:=qH (qA hb1 hr0)
 clear hb1 hr0
 go_enter Tryz.func113,Tryz.ntmps113
 go_wp2_with fail
 rw [←hW1]
 clear hW1
 go_wp2_with fail
 refine (HN1.out _).mono ?_
 rintro e w1 ⟨ok1,rfl,h1,rfl⟩
 have H1:=qH h1
 clear h1
 cases ok1 with
 | false =>
  have HF:Hid (¬FOk n.data.toList d.data.toList):=qH (fun h=>absurd (H1.out.2 h.vn) (by decide))
  go_wp2_with fail
  go_ret
  exact⟨false,rfl,qcQ HF.out,HR.out.1⟩
 | true =>
  go_wp2_with fail
  refine (HN2.out _).mono ?_
  rintro e w1 ⟨ok2,rfl,h2,rfl⟩
  have H2:=qH h2
  clear h2
  cases ok2 with
  | false =>
   have HF:Hid (¬FOk n.data.toList d.data.toList):=qH (fun h=>absurd (H2.out.2 h.vd) (by decide))
   go_wp2_with fail
   go_ret
   exact⟨false,rfl,qcQ HF.out,HR.out.1⟩
  | true =>
   have hvn:=H1.out.1 (by first | exact rfl | trivial)
   have hvd:=H2.out.1 (by first | exact rfl | trivial)
   have hw2:=HR.out.2
   obtain⟨w2,hww⟩:∃w2,w2=w1:=⟨_,rfl⟩
   rw [←hww] at hw2 k0 k1 HR
   rw [←hww]
   clear hww
   have hst:Below w2.heap.size w2 w2:=Below.refl _ _
   have hstD:Below w2.heap.size w2 w2.drew:=hst.drew
   have hdr2:w2.drew.heap.size=w2.heap.size:=rfl
   have l0:w.heap.size<w2.heap.size:=(qG hw2).1
   have C0:∀W,Below w2.heap.size w2 W→W.cell? ⟨w.heap.size,0,none⟩=some (.string n):=fun W h=>(h.cell (p:=⟨w.heap.size,0,none⟩) l0).trans (cell_of_row _ _ 0 _ _ _ hw2)
   have C1:∀W,Below w2.heap.size w2 W→W.cell? ⟨w.heap.size,1,none⟩=some (.string d):=fun W h=>(h.cell (p:=⟨w.heap.size,1,none⟩) l0).trans (cell_of_row _ _ 1 _ _ _ hw2)
   have HN3:=qH (fun (W:World) (_:Below w2.heap.size w2 W)=>qju n hvn W)
   have HN4:=qH (fun (W:World) (_:Below w2.heap.size w2 W)=>qju d hvd W)
   have HV:=qH (qA hvn hvd)
   clear hvn hvd hw2 k0 k1
   go_wp2_with fail
   refine wp_region_held_drew (S:=fun W=>Below w2.heap.size w2 W) (by kernel_rfl) hstD (fun hS0=>?_)
   refine hT 0 (h:=hT 1 (h:=hT 3 (h:=hT 4 (h:=?_))))
   refine gr [(2,17),(5,20),(6,3),(7,4)] [] [0,1,3,4] [2,5,6,7] [6,7] 8 10 (fl2 [(2,fun x W=>qbP W x (ival n.data.toList)),(5,fun x W=>qbP W x (ival d.data.toList)),(6,ZC w2.heap.size #[.bool false,.slice none 0 0] 121),(7,ZC w2.heap.size #[.bool false,.slice none 0 0] 121)]) _ 2
    (hS:=fun w' h=>qbU h) (hstep:=⟨⟨_,rfl,fun v w3 hb hF K hK=>?_⟩,⟨_,rfl,fun v w3 hb hF K hK=>?_⟩,⟨_,rfl,fun v w3 hb hF K hK=>?_⟩,⟨_,rfl,fun v w3 hb hF K hK=>?_⟩,trivial⟩) (hend:=fun v w3 hb hF hE f=>?_)
   ·exact gC hK (HN3.out w3 (qbU hb)) (h:=fun e w3 ⟨u,e1,h1,h2⟩=>⟨u,e1,h2,h1⟩)
   ·exact gC hK (HN4.out w3 (qbU hb)) (h:=fun e w3 ⟨u,e1,h1,h2⟩=>⟨u,e1,h2,h1⟩)
   ·exact gW hK (h:=ZC.new hb.size)
   ·exact gW hK (h:=ZC.new hb.size)
   have i3:qbP w3 (v 2) _:=hF 2 (by decide) (by decide)
   have i4:qbP w3 (v 5) _:=hF 5 (by decide) (by decide)
   obtain⟨g3,h3,e6,hge3⟩:ZC _ _ _ (v 6) w3:=hF 6 (by decide) (by decide)
   obtain⟨g4,h4,e7,hge4⟩:ZC _ _ _ (v 7) w3:=hF 7 (by decide) (by decide)
   have hne:g3≠g4:=by have:=hE 6 (by decide) 7 (by decide) (by decide);rwa [e6,e7] at this
   obtain⟨b3,a3,n3,c3,e2⟩:=i3.shape
   obtain⟨b4,a4,n4,c4,e5⟩:=i4.shape
   rw [e2] at i3
   rw [e5] at i4
   rw [e2,e5,e6,e7]
   have hb:=qbU hb
   have h4':=(setRow_other w3 g3 g4 #[.bool b3,.slice a3 n3 c3] (fun e=>hne e.symm)).trans h4
   refine hSn 8 2 h3 (h:=⟨below_setRow hb hge3 _,?_⟩)
   refine hSt 9 2 h4' (h:=⟨below_setRow (below_setRow hb hge3 _) hge4 _,?_⟩)
   obtain⟨wc,hwc⟩:∃wc,wc=(w3.setRow g3 #[.bool b3,.slice a3 n3 c3]).setRow g4 #[.bool b4,.slice a4 n4 c4]:=⟨_,rfl⟩
   have hi3:qbP wc _ _:=hwc▸qbV (qbV i3 h3 (nd2 _ _ _ _)) h4' (nd2 _ _ _ _)
   have hi4:qbP wc _ _:=hwc▸qbV (qbV i4 h3 (nd2 _ _ _ _)) h4' (nd2 _ _ _ _)
   have hb:Below w2.heap.size w2 wc:=hwc▸below_setRow (below_setRow hb hge3 _) hge4 _
   have h3:wc.heap[g3]? = some (.cells #[.bool b3,.slice a3 n3 c3] 121 (0,0)):=hwc▸(setRow_other _ _ _ _ hne).trans (setRow_heap _ _ _ _ _ _ h3)
   have h4:wc.heap[g4]? = some (.cells #[.bool b4,.slice a4 n4 c4] 121 (0,0)):=hwc▸setRow_heap _ _ _ _ _ _ h4'
   rw [←hwc]
   clear hwc hF hE h4' e2 e5 e6 e7 i3 i4 hS0 C0 C1
   have e40:=cell_of_row wc _ 0 _ _ _ h4
   have e41:=cell_of_row wc _ 1 _ _ _ h4
   have HB:=qH (HR.out.1.trans (hb.mono HR.out.1.size))
   obtain⟨m4,hm4,hg4⟩:=hi4
   have hm4':m4=.slice a4 n4 c4:=by simp only [qaQ,qaP,qaI] at hm4;exact hm4.2.1.symm
   have hb4v:b4=decide (ival d.data.toList<0):=by simp only [qaQ,qaP,qaI,qbz] at hm4;exact hm4.1
   subst hm4'
   have hi4:qbP wc (.agg #[.bool b4,.slice a4 n4 c4]) (ival d.data.toList):=⟨_,by rw [hb4v],hg4⟩
   have hn4:n4=0↔(ival d.data.toList).natAbs=0:=by
    obtain⟨ao,bo,oo,co,no,O,hO,Io,hOx⟩:=hg4
    have e1:n4=no:=by injection hO
    rw [e1,qgg Io,hOx]
   clear hm4 hge3 hge4
   cases b4 with
   | true =>
    have HF:Hid (¬FOk n.data.toList d.data.toList):=qH (fun h=>by have:=of_decide_eq_true hb4v.symm;have:=h.pos;omega)
    clear hb4v
    go_wp2_with fail
    go_ret
    exact⟨false,rfl,qcQ HF.out,HB.out⟩
   | false =>
    have hnn:=of_decide_eq_false hb4v.symm
    by_cases h0:n4=0
    ·have HF:Hid (¬FOk n.data.toList d.data.toList):=qH (fun h=>by have:=hn4.1 h0;have:=h.pos;omega)
     subst h0
     clear hb4v hn4
     go_wp2_with fail
     go_ret
     exact⟨false,rfl,qcQ HF.out,HB.out⟩
    ·have hz:((n4:Int) == 0)=false:=by rw [beq_eq_false_iff_ne];omega
     have hpos:0<ival d.data.toList:=by
      rcases qaJ (ival d.data.toList).natAbs with h | h
      ·exact absurd (hn4.2 h) h0
      ·omega
     have HP:=qH hpos
     have HG:=qH (qgv (ival n.data.toList) (ival d.data.toList) 150 (by decide) _ _ wc hi3 hi4 (qdy HV.out.1) (qdy HV.out.2))
     have hgf:Fit ((ival n.data.toList).natAbs.gcd (ival d.data.toList).natAbs) 150:=(qdy HV.out.2).le (Nat.gcd_le_right _ (by omega))
     obtain⟨G,hG⟩:∃G,(ival n.data.toList).natAbs.gcd (ival d.data.toList).natAbs=G:=⟨_,rfl⟩
     rw [hG] at HG hgf
     have HGG:=qH hG
     have HX:=qH (qA h3 h4)
     have HGF:=qH hgf
     clear hb4v hn4 h0 hpos hgf hG hi3 hi4 h3 h4 hg4 hnn
     go_wp2_with (first | ((with_reducible refine qbJ rfl 121 _ rfl (g3) ?_ 121 #[.bool b3,.slice a3 n3 c3] _ HX.out.1 Tryz.underlying121 ?_ 2 ?_ ?_ ?_);(next=>rfl);(next=>rfl);(next=>kernel_rfl);(next=>rfl)) | ((with_reducible refine qbJ rfl 121 _ rfl (g4) ?_ 121 #[.bool false,.slice a4 n4 c4] _ HX.out.2 Tryz.underlying121 ?_ 2 ?_ ?_ ?_);(next=>rfl);(next=>rfl);(next=>kernel_rfl);(next=>rfl)))
     refine HG.out.mono ?_
     rintro e w5 ⟨v5,rfl,hb5,hv5⟩
     have HT:=qH (qgo (G:Int) 150 (by decide) v5 w5 hv5 (by simpa using HGF.out))
     obtain⟨b5,a5,n5,c5,rfl⟩:=hv5.shape
     have HB5:=qH (HB.out.trans (hb5.mono HB.out.size))
     clear hb5 hv5
     go_wp2_with fail
     refine HT.out.mono ?_
     rintro e w6 ⟨rfl,hb6⟩
     have HB6:=qH (HB5.out.trans (hb6.mono HB5.out.size))
     have hone:=wtxt_one (G:=G)
     obtain⟨S,hS⟩:∃S,frac.wtxt (G:Int)=S:=⟨_,rfl⟩
     rw [hS] at hone ⊢
     have HO:=qH hone
     clear hb6 hone hS
     by_cases h1:S=⟨#[49]⟩
     ·have HF:Hid (FOk n.data.toList d.data.toList):=qH ⟨HV.out.1,HV.out.2,HP.out,HGG.out.trans (HO.out.1 h1)⟩
      subst h1
      go_wp2_with fail
      go_ret
      exact⟨true,rfl,qe1 HF.out,HB6.out⟩
     ·have HF:Hid (¬FOk n.data.toList d.data.toList):=qH (fun h=>h1 (HO.out.2 (HGG.out.symm.trans h.cop)))
      have hne:=ne_lists h1
      rw [show (⟨#[49]⟩:ByteArray).toList=[49] by rw [ByteArray.toList_eq]] at hne
      clear h1
      go_wp2_with fail
      go_ret
      exact⟨false,rfl,qcQ HF.out,HB6.out⟩
theorem qlV {W:World} {b:Bool} {m o:Value} {q:Rat} (h:qbK W (.agg #[.bool b,m,.bool false,o]) q):qbK W (.agg #[.bool false,m,.bool false,o]) (qabs q):=by
 obtain⟨m',o',e,hm,ho⟩:=h
 simp only [qaQ,qaP,qaI,qbz,and_true,true_and] at e
 obtain⟨_,rfl,rfl⟩:=e
 obtain⟨h1,h2⟩:=qjM q
 refine⟨m,o,?_,?_,?_⟩
 ·rw [h1,decide_eq_false (by omega)]
 ·rw [h1,qax];exact hm
 ·rw [h2];exact ho
theorem abs_any (n d:ByteArray) (hf:FOk n.data.toList d.data.toList) (hn:n.size≤140737488355328) (hd:d.size≤140737488355328) (w:World) :
  Calls Tryz.prog 86 #[.agg #[.string n,.string d]] w fun e w'=>qgp w (qabs (fval n.data.toList d.data.toList)) e w':=by
 obtain⟨Q,hQ⟩:∃Q,fval n.data.toList d.data.toList=Q:=⟨_,rfl⟩
 have HRi:=qH (fun (W:World)=>qhm n d hn hd W)
 have hin:=fun (W:World)=>qhO n d hf W
 rw [hQ] at hin ⊢
 have HIn:=qH hin
 have hval:=hf.val
 rw [hQ] at hval
 have hqn:=qjM Q
 have fn:Fit (qabs Q).num.natAbs 150:=by rw [hqn.1,qax,hval.1];exact qdy hf.vn
 have fd:Fit (qabs Q).den 150:=by rw [hqn.2,hval.2];exact qdy hf.vd
 have HO:=qH (fun (W:World) (v:Value) (hv:qbK W v (qabs Q))=>qgl (qabs Q) 150 (by decide) (by decide) v W hv fn fd)
 have HF:=qH hf
 obtain⟨W1,hW1⟩:∃W1,W1=(w.alloc (.cells #[.string n,.string d] 46)).alloc (.cells #[.string ⟨#[]⟩,.string ⟨#[]⟩] 46):=⟨_,rfl⟩
 have hb1:Below w.heap.size w W1:=hW1▸qbI (qbI qB qN) qN
 have hr0:W1.heap[w.heap.size]? = some (.cells #[.string n,.string d] 46 (0,0)):=by rw [hW1,qL _ _ _ (by simp only [qab];omega)];exact qM _ _ _ rfl
 have hr1:W1.heap[w.heap.size+1]? = some (.cells #[.string ⟨#[]⟩,.string ⟨#[]⟩] 46 (0,0)):=by rw [hW1];exact qM _ _ _ (by simp)
 have H1:=qH (qA hb1 (qA hr0 hr1))
 clear hb1 hr0 hr1 hin hval hqn fn fd hf hQ
 go_enter Tryz.func86,Tryz.ntmps86
 go_wp2_with fail
 rw [←hW1]
 clear hW1
 go_wp2_with ((with_reducible refine qbJ rfl 46 _ rfl (w.heap.size) ?_ 46 #[.string n,.string d] _ H1.out.2.1 Tryz.underlying46 ?_ 2 ?_ ?_ ?_);(next=>rfl);(next=>rfl);(next=>kernel_rfl);(next=>rfl))
 refine (HRi.out _).mono ?_
 rintro e w2 ⟨ok,rfl,hok,hb2⟩
 obtain rfl:ok=true:=hok.2 HF.out
 have H2:=qH (qA (H1.out.1.trans (hb2.mono H1.out.1.size)) (qA (zkeep hb2 _ _ H1.out.2.1) (zkeep hb2 _ _ H1.out.2.2)))
 clear hb2 hok
 go_wp2_with ((with_reducible refine qbJ rfl 46 _ rfl (w.heap.size) ?_ 46 #[.string n,.string d] _ H2.out.2.1 Tryz.underlying46 ?_ 2 ?_ ?_ ?_);(next=>rfl);(next=>rfl);(next=>kernel_rfl);(next=>rfl))
 refine (HIn.out _).mono ?_
 rintro e w3 ⟨v3,rfl,hb3,hv3⟩
 obtain⟨b4,a4,n4,c4,a5,n5,c5,rfl⟩:=hv3.shape
 obtain⟨W4,hW4⟩:∃W4,W4=w3.alloc (.cells #[.bool false,.slice a4 n4 c4,.bool false,.slice a5 n5 c5] 123):=⟨_,rfl⟩
 have hb34:Below w3.heap.size w3 W4:=hW4▸qbI qB qN
 have hv4:=(qlV hv3).below hb34
 have r4:W4.heap[w3.heap.size]? = some (.cells #[.bool false,.slice a4 n4 c4,.bool false,.slice a5 n5 c5] 123 (0,0)):=by rw [hW4];exact qM _ _ _ rfl
 have hb24:=hb3.trans (hb34.mono hb3.size)
 have H4:=qH (qA (H2.out.1.trans (hb24.mono H2.out.1.size)) (qA (zkeep hb24 _ _ H2.out.2.2) (qA hv4 r4)))
 rw [hW4] at r4
 have HR4:=qH r4
 have HW4:=qH hW4
 clear hb3 hv3 hb34 hv4 r4 hb24 hW4
 go_wp2_with ((with_reducible refine qbJ rfl 123 _ rfl (w3.heap.size) ?_ 123 #[.bool false,.slice a4 n4 c4,.bool false,.slice a5 n5 c5] _ HR4.out Tryz.underlying123 ?_ 4 ?_ ?_ ?_);(next=>rfl);(next=>rfl);(next=>kernel_rfl);(next=>rfl))
 trace_state
 rw [←HW4.out]
 refine (HO.out _ _ H4.out.2.2.1).mono ?_
 intro e w5 h5
 obtain⟨x1,x2,c,rfl,hc,hb5⟩:=qcv h5
 have rr:=zkeep hb5 _ _ H4.out.2.1
 have hbw:=H4.out.1.trans (hb5.mono H4.out.1.size)
 have H5:=qH (qA rr (below_setRow hbw (show w.heap.size≤w.heap.size+1 by omega) #[.string x1,.string x2]))
 have HC:=qH hc
 clear h5 hb5 rr hbw hc
 go_wp2_with ((with_reducible refine wpList_store_row rfl 46 _ _ rfl (w.heap.size+1) #[.string x1,.string x2] ?_ ?_ 46 _ H5.out.1 2 ?_ ?_ ?_ ?_ ?_);(next=>rfl);(next=>rfl);(next=>kernel_rfl);(next=>rfl);(next=>rfl);(next=>rfl))
 refine bodyPost_ret (v:=.tuple #[.agg #[.string x1,.string x2],.int .i64 c]) (qbS rfl _ _ (w.heap.size+1) 46 _ _ rfl (setRow_heap _ _ _ _ _ _ H5.out.1) Tryz.underlying46 rfl 2 (by kernel_rfl) rfl _ rfl) rfl ⟨?_,H5.out.2⟩
 rcases HC.out with ⟨h1,h2,rfl⟩ | ⟨h1,h2,rfl⟩
 ·exact qau ⟨h1,by rw [qdI,←h2]⟩
 ·refine qaq ⟨h1,?_⟩
  cases h2;rfl
end Go.Proofs.YtfminfgabiipjaaGreatDoor.p4
namespace Go.Proofs.YtfminfgabiipjaaGreatDoor
open Go.RowKit
def qfA (w:World) (n:Nat) (f:Nat→Rat) (e:Ending) (w':World):Prop:=∃(ao:Option Addr) (g cap:Nat),e=.returned (.slice ao n cap)∧FCells w' ao g 0 (told n f)∧n≤cap∧Below w.heap.size w w'
theorem qfA.of {w W:World} {n:Nat} {f:Nat→Rat} {B:Nat} {v:Value} (h:Rws W B 46 2 v n (fflat (told n f))) (hb:Below w.heap.size w W):qfA w n f (.returned v) W:=by
 obtain⟨ao,g,cap,rfl,h1,h2⟩:=qc5 h (qbQ n f)
 exact⟨ao,g,cap,rfl,h1,h2,hb⟩
theorem qfF (k:Nat) (hk:k≤1000000) (r c:Nat) (N:List Int) (D:List Nat) (v:Value) (w:World) (hv:qc2 w v r c N D) :
  Calls Tryz.prog 85 #[v,.int .i64 (k:Int)] w fun e w'=>∃x1 x2,e=.returned (.agg #[.string x1,.string x2])∧(x1,x2)=ftxt (drq N D k)∧Below w.heap.size w w':=by
 refine (qcy k hk r c N D v w hv).mono ?_
 rintro e w' ⟨rfl,hb⟩
 exact⟨frac.wtxt _,num _,rfl,rfl,hb⟩
theorem list_new (n fr:Nat) (hn:n≤1000) (hf:fr≤1000) (r c:Nat) (N:List Int) (D:List Nat) (v:Value) (w:World) (hv:qc2 w v r c N D) :
  Calls Tryz.prog 27 #[v,.int .i64 (n:Int),.int .i64 (fr:Int)] w fun e w'=>∃(v:Value) (B:Nat),e=.returned v∧w.heap.size≤B∧Rws w' B 46 2 v n (fflat (told n fun i=>drq N D (fr+3*i)))∧Below w.heap.size w w':=by
 have HNum:=qH (fun (W:World) (h:Below w.heap.size w W) (k:Nat) (hk:k≤1000000)=>qfF k hk r c N D v W (hv.below h))
 obtain⟨a,b,off,nn,cc,a',b',off',n',cc',rfl,_⟩:=hv
 obtain⟨W1,hW1⟩:∃W1,W1=w.alloc (.cells #[.int .u8 (r:Int),.int .u8 (c:Int),.slice a nn cc,.slice a' n' cc'] 29):=⟨_,rfl⟩
 have hb1:Below w.heap.size w W1:=hW1▸qbI qB qN
 have hr1:W1.heap[w.heap.size]? = some (.cells #[.int .u8 (r:Int),.int .u8 (c:Int),.slice a nn cc,.slice a' n' cc'] 29 (0,0)):=by rw [hW1];exact qM _ _ _ rfl
 have H1:=qH (qA hb1 hr1)
 clear hb1 hr1
 go_enter Tryz.func27,Tryz.ntmps27
 go_wp2_with fail
 rw [←hW1]
 clear hW1
 go_loopw [7,8] (fun x7 x8 W=>∃i:Nat,x8=.int .i64 i∧i≤n∧Hid (Rws W W1.heap.size 46 2 x7 i (fflat (told i fun i=>drq N D (fr+3*i))))∧Hid (Below W1.heap.size W1 W)) (fun _ x8 _=>n-(intOf x8).toNat)
 case atStart=>exact⟨0,rfl,qam _,qH (Rws.nil _ _ _ _),qH qB⟩
 case round =>
  obtain⟨i,rfl,hi,hO,hB⟩:=hrel
  by_cases hlt:i<n
  ·have hii:(i:Int)<n:=by omega
   obtain⟨p,hp⟩:∃p,3*i=p:=⟨_,rfl⟩
   obtain⟨k,hk⟩:∃k,fr+p=k:=⟨_,rfl⟩
   have e1:(3:Int)*(i:Int)=p:=by omega
   have e2:(fr:Int)+(p:Int)=k:=by omega
   have hkl:k≤1000000:=by omega
   have hpl:p≤3000:=by omega
   have hrow:=zkeep hB.out _ _ H1.out.2
   have HRW:=qH hrow
   have HK:=qH (show fr+3*i=k by omega)
   have HC:=qH (HNum.out wr (H1.out.1.trans (hB.out.mono H1.out.1.size)) k hkl)
   clear hp hk hrow
   go_wp2_with ((with_reducible refine qbJ rfl 29 _ rfl (w.heap.size) ?_ 29 #[.int .u8 (r:Int),.int .u8 (c:Int),.slice a nn cc,.slice a' n' cc'] _ HRW.out Tryz.underlying29 ?_ 4 ?_ ?_ ?_);(next=>rfl);(next=>rfl);(next=>kernel_rfl);(next=>rfl))
   refine HC.out.mono ?_
   rintro e w2 ⟨x1,x2,rfl,hx,hb2⟩
   have HO2:=qH (hO.out.below hb2)
   have HB2:=qH (hB.out.trans (hb2.mono hB.out.size))
   have HX:=qH hx
   clear hb2 hx
   go_wp2_with (first | (at_builtin;refine qdi rfl _ _ rfl HB2.out rfl HO2.out rfl rfl rfl (by omega) ?_;intro v' w' ho' hb') | fail)
   go_roundw
   case rel=>exact⟨i+1,by go_num,hlt,qH (by rw [qew];show Rws _ _ _ _ _ _ (fflat (_++[ftxt (drq N D (fr+3*i))]));rw [HK.out,←HX.out];exact ho'.out),hb'⟩
   case measure=>simp [intOf];omega
  ·obtain rfl:i=n:=by omega
   go_wp2_with fail
   go_ret
   exact⟨_,_,rfl,H1.out.1.size,hO.out,H1.out.1.trans (hB.out.mono H1.out.1.size)⟩
theorem list_any (n fr:Nat) (hn:n≤1000) (hf:fr≤1000) (r c:Nat) (N:List Int) (D:List Nat) (v:Value) (w:World) (hv:qc2 w v r c N D) :
  Calls Tryz.prog 27 #[v,.int .i64 (n:Int),.int .i64 (fr:Int)] w fun e w'=>qfA w n (fun i=>drq N D (fr+3*i)) e w':=by
 refine (list_new n fr hn hf r c N D v w hv).mono ?_
 rintro e w' ⟨v',B,rfl,_,h,hb⟩
 exact qfA.of h hb
theorem abs_txt (q:Rat) (hs:Sm q) (x1 x2:ByteArray) (hx:(x1,x2)=ftxt q) (w:World) :
  Calls Tryz.prog 86 #[.agg #[.string x1,.string x2]] w fun e w'=>∃y1 y2,e=.returned (.tuple #[.agg #[.string y1,.string y2],.int .i64 0])∧(y1,y2)=ftxt (qabs q)∧Below w.heap.size w w':=by
 have h1:x1=(ftxt q).1:=congrArg Prod.fst hx
 have h2:x2=(ftxt q).2:=congrArg Prod.snd hx
 subst h1 h2
 have hsh:=hs.short
 have hz1:(ftxt q).1.size≤140737488355328:=by
  have h3:=hsh.1
  show (frac.wtxt q.num).size≤_
  by_cases h:q.num<0
  ·rw [p4.qeh h];omega
  ·rw [p4.qei h];omega
 have hz2:(ftxt q).2.size≤140737488355328:=qai hsh.2 (by decide)
 refine (p4.abs_any _ _ (qjr hsh) hz1 hz2 w).mono ?_
 rw [qgx]
 rintro e w' ⟨h | h,hb⟩
 ·exact⟨_,_,h.2,rfl,hb⟩
 ·exact absurd hs.abs.short h.1
theorem qjc (n:Nat) (hn:n≤1000) (r c:Nat) (N:List Int) (D:List Nat) (v:Value) (w:World) (hv:qc2 w v r c N D) :
  Calls Tryz.prog 28 #[v,.int .i64 (n:Int)] w fun e w'=>qfA w n (fun i=>qabs (drq N D (2*i+1))) e w':=by
 have HNum:=qH (fun (W:World) (h:Below w.heap.size w W) (k:Nat) (hk:k≤1000000)=>qfF k hk r c N D v W (hv.below h))
 obtain⟨a,b,off,nn,cc,a',b',off',n',cc',rfl,_⟩:=hv
 obtain⟨W1,hW1⟩:∃W1,W1=w.alloc (.cells #[.int .u8 (r:Int),.int .u8 (c:Int),.slice a nn cc,.slice a' n' cc'] 29):=⟨_,rfl⟩
 have hb1:Below w.heap.size w W1:=hW1▸qbI qB qN
 have hr1:W1.heap[w.heap.size]? = some (.cells #[.int .u8 (r:Int),.int .u8 (c:Int),.slice a nn cc,.slice a' n' cc'] 29 (0,0)):=by rw [hW1];exact qM _ _ _ rfl
 have H1:=qH (qA hb1 hr1)
 clear hb1 hr1
 go_enter Tryz.func28,Tryz.ntmps28
 go_wp2_with fail
 rw [←hW1]
 clear hW1
 go_loopw [5,6,7,8] (fun x5 x6 x7 x8 W=>∃i:Nat,x6=.int .i64 i∧i≤n∧Hid (Rws W W1.heap.size 46 2 x5 i (fflat (told i fun i=>qabs (drq N D (2*i+1)))))∧Hid (Below W1.heap.size W1 W)) (fun _ x6 _ _ _=>n-(intOf x6).toNat)
 case atStart=>exact⟨0,rfl,qam _,qH (Rws.nil _ _ _ _),qH qB⟩
 case round =>
  obtain⟨i,rfl,hi,hO,hB⟩:=hrel
  by_cases hlt:i<n
  ·have hii:(i:Int)<n:=by omega
   obtain⟨p,hp⟩:∃p,2*i=p:=⟨_,rfl⟩
   obtain⟨k,hk⟩:∃k,p+1=k:=⟨_,rfl⟩
   have e1:(2:Int)*(i:Int)=p:=by omega
   have e2:(p:Int)+1=k:=by omega
   have hkl:k≤1000000:=by omega
   have hpl:p≤3000:=by omega
   have hrow:=zkeep hB.out _ _ H1.out.2
   have HRW:=qH hrow
   have HK:=qH (show 2*i+1=k by omega)
   have HC:=qH (HNum.out wr (H1.out.1.trans (hB.out.mono H1.out.1.size)) k hkl)
   clear hp hk hrow
   go_wp2_with ((with_reducible refine qbJ rfl 29 _ rfl (w.heap.size) ?_ 29 #[.int .u8 (r:Int),.int .u8 (c:Int),.slice a nn cc,.slice a' n' cc'] _ HRW.out Tryz.underlying29 ?_ 4 ?_ ?_ ?_);(next=>rfl);(next=>rfl);(next=>kernel_rfl);(next=>rfl))
   refine HC.out.mono ?_
   rintro e w2 ⟨x1,x2,rfl,hx,hb2⟩
   have HA:=qH (fun (W:World)=>abs_txt _ (qg8 N D k) x1 x2 hx W)
   have HO2:=qH (hO.out.below hb2)
   have HB2:=qH (hB.out.trans (hb2.mono hB.out.size))
   clear hb2 hx
   go_wp2_with fail
   refine (HA.out _).mono ?_
   rintro e w3 ⟨y1,y2,rfl,hy,hb3⟩
   obtain⟨W4,hW4⟩:∃W4,W4=w3.alloc (.cells #[.string y1,.string y2] 46):=⟨_,rfl⟩
   have hb34:Below w3.heap.size w3 W4:=hW4▸qbI qB qN
   have hb24:=hb3.trans (hb34.mono hb3.size)
   have r4:=heap_alloc_new w3 (.cells #[.string y1,.string y2] 46)
   have HO3:=qH (HO2.out.below hb24)
   have HB3:=qH (HB2.out.trans (hb24.mono HB2.out.size))
   have HR4:=qH r4
   have HX:=qH hy
   have Hsz:=qH (show w3.heap.size+1=(w3.alloc (.cells #[.string y1,.string y2] 46)).heap.size by simp only [qab])
   rw [hW4] at HO3 HB3
   clear hb3 hb34 hb24 r4 hy hW4
   go_wp2_with (first | ((with_reducible refine qbJ rfl 46 _ rfl (w3.heap.size) ?_ 46 #[.string y1,.string y2] _ HR4.out Tryz.underlying46 ?_ 2 ?_ ?_ ?_);(next=>rfl);(next=>rfl);(next=>kernel_rfl);(next=>rfl)) | (at_builtin;refine qdi rfl _ _ rfl HB3.out rfl HO3.out rfl rfl Hsz.out (by omega) ?_;intro v' w' ho' hb') | fail)
   go_roundw
   case rel=>exact⟨i+1,by go_num,hlt,qH (by rw [qew];show Rws _ _ _ _ _ _ (fflat (_++[ftxt (qabs (drq N D (2*i+1)))]));rw [HK.out,←HX.out];exact ho'.out),hb'⟩
   case measure=>simp [intOf];omega
  ·obtain rfl:i=n:=by omega
   go_wp2_with fail
   go_ret
   exact qfA.of hO.out (H1.out.1.trans (hB.out.mono H1.out.1.size))
def qdG (W:World) (b i m:Nat) (f:Nat→Nat→Rat) (vs:List Value):Prop:=vs.length=i∧∀k,k<i→∃B',b≤B'∧Rws W B' 46 2 (vs.getD k undef) m (fflat (told m (f k)))
theorem qdG.next {W:World} {b i m B:Nat} {f:Nat→Nat→Rat} {vs:List Value} {u:Value} (h:qdG W b i m f vs) (hbB:b≤B) (hu:Rws W B 46 2 u m (fflat (told m (f i)))):qdG W b (i+1) m f (vs++[u]):=by
 refine⟨by rw [qag,h.1];rfl,fun k hk=>?_⟩
 by_cases e:k=i
 ·subst e
  refine⟨B,hbB,?_⟩
  rw [qaa,qas (by rw [h.1];exact qae _),h.1,qaH]
  exact hu
 ·obtain⟨B',hB0,hB'⟩:=h.2 k (by omega)
  refine⟨B',hB0,?_⟩
  rw [qaa,qaB (by rw [h.1];omega),←qaa]
  exact hB'
theorem qdG.map {W W':World} {b i m:Nat} {f:Nat→Nat→Rat} {vs:List Value} (h:qdG W b i m f vs) (hk:∀(B':Nat) (vi:Value) (ni:Nat) (xi:List Value),Rws W B' 46 2 vi ni xi→Rws W' B' 46 2 vi ni xi):qdG W' b i m f vs :=
 ⟨h.1,fun k hkk=>by
  obtain⟨B',hB0,hB'⟩:=h.2 k hkk
  exact⟨B',hB0,hk _ _ _ _ hB'⟩⟩
theorem qky (n m:Nat) (hn:n≤1000) (hm:m≤1000) (r c:Nat) (N:List Int) (D:List Nat) (v:Value) (w:World) (hv:qc2 w v r c N D) :
  Calls Tryz.prog 39 #[v,.int .i64 (n:Int),.int .i64 (m:Int)] w fun e w'=>∃(v:Value) (vs:List Value) (B:Nat),e=.returned v∧w.heap.size≤B∧Rws w' B 23 1 v n vs∧qdG w' w.heap.size n m (fun i j=>drq N D (5*i+j)) vs∧Below w.heap.size w w':=by
 have HNum:=qH (fun (W:World) (h:Below w.heap.size w W) (k:Nat) (hk:k≤1000000)=>qfF k hk r c N D v W (hv.below h))
 obtain⟨a,b,off,nn,cc,a',b',off',n',cc',rfl,_⟩:=hv
 obtain⟨F,hF⟩:∃F:Nat→Nat→Rat,F=fun i j=>drq N D (5*i+j):=⟨_,rfl⟩
 have HF:∀i j,Hid (F i j=drq N D (5*i+j)):=fun i j=>qH (by rw [hF])
 rw [←hF]
 clear hF
 obtain⟨W1,hW1⟩:∃W1,W1=w.alloc (.cells #[.int .u8 (r:Int),.int .u8 (c:Int),.slice a nn cc,.slice a' n' cc'] 29):=⟨_,rfl⟩
 have hb1:Below w.heap.size w W1:=hW1▸qbI qB qN
 have hr1:W1.heap[w.heap.size]? = some (.cells #[.int .u8 (r:Int),.int .u8 (c:Int),.slice a nn cc,.slice a' n' cc'] 29 (0,0)):=by rw [hW1];exact qM _ _ _ rfl
 have H1:=qH (qA hb1 hr1)
 clear hb1 hr1
 go_enter Tryz.func39,Tryz.ntmps39
 go_wp2_with fail
 rw [←hW1]
 clear hW1
 go_loopw [7,8,9,10] (fun x7 x8 x9 x10 W=>∃(i:Nat) (vs:List Value),x8=.int .i64 i∧i≤n∧Hid (Rws W W1.heap.size 23 1 x7 i vs)∧Hid (qdG W w.heap.size i m F vs)∧Hid (Below W1.heap.size W1 W)) (fun _ x8 _ _ _=>n-(intOf x8).toNat)
 case atStart=>exact⟨0,[],rfl,qam _,qH (Rws.nil _ _ _ _),qH ⟨rfl,fun k hk=>absurd hk (by omega)⟩,qH qB⟩
 case round =>
  obtain⟨i,vs,rfl,hi,hO,hD,hB⟩:=hrel
  obtain⟨wo,hwo⟩:∃wo,wo=wr:=⟨_,rfl⟩
  subst hwo
  by_cases hlt:i<n
  ·have hii:(i:Int)<n:=by omega
   go_wp2_with fail
   go_loopw [9,10] (fun x9 x10 W=>∃j:Nat,x10=.int .i64 j∧j≤m∧Hid (Rws W wo.heap.size 46 2 x9 j (fflat (told j (F i))))∧Hid (Below wo.heap.size wo W)) (fun _ x10 _=>m-(intOf x10).toNat)
   case atStart=>exact⟨0,rfl,qam _,qH (Rws.nil _ _ _ _),qH qB⟩
   case round =>
    obtain⟨j,rfl,hj,hR,hB2⟩:=hrel
    have HBW:=qH (hB.out.trans (hB2.out.mono hB.out.size))
    by_cases hlt2:j<m
    ·have hji:(j:Int)<m:=by omega
     obtain⟨p,hp⟩:∃p,5*i=p:=⟨_,rfl⟩
     obtain⟨k,hk⟩:∃k,p+j=k:=⟨_,rfl⟩
     have e1:(5:Int)*(i:Int)=p:=by omega
     have e2:(p:Int)+(j:Int)=k:=by omega
     have hkl:k≤1000000:=by omega
     have hpl:p≤5000:=by omega
     have hrow:=zkeep HBW.out _ _ H1.out.2
     have HRW:=qH hrow
     have HK:=qH (show 5*i+j=k by omega)
     have HC:=qH (HNum.out wr (H1.out.1.trans (HBW.out.mono H1.out.1.size)) k hkl)
     clear hp hk hrow
     go_wp2_with ((with_reducible refine qbJ rfl 29 _ rfl (w.heap.size) ?_ 29 #[.int .u8 (r:Int),.int .u8 (c:Int),.slice a nn cc,.slice a' n' cc'] _ HRW.out Tryz.underlying29 ?_ 4 ?_ ?_ ?_);(next=>rfl);(next=>rfl);(next=>kernel_rfl);(next=>rfl))
     refine HC.out.mono ?_
     rintro e w2 ⟨x1,x2,rfl,hx,hb2⟩
     have HO2:=qH (hR.out.below hb2)
     have HB3:=qH (hB2.out.trans (hb2.mono hB2.out.size))
     have HX:=qH hx
     clear hb2 hx
     go_wp2_with (first | (at_builtin;refine qdi rfl _ _ rfl HB3.out rfl HO2.out rfl rfl rfl (by omega) ?_;intro v' w' ho' hb') | fail)
     go_roundw
     case rel=>exact⟨j+1,by go_num,hlt2,qH (by rw [qew];rw [(HF i j).out,HK.out,←HX.out];exact ho'.out),hb'⟩
     case measure=>simp [intOf];omega
    ·obtain rfl:j=m:=by omega
     have HO2:=qH (hO.out.below hB2.out)
     have HD2:=qH (hD.out.map fun _ _ _ _ h=>h.below hB2.out)
     obtain⟨ra,rc,rfl⟩:=hR.out.shape
     go_wp2_with (first | (at_builtin;refine qkD rfl _ _ rfl HBW.out rfl HO2.out rfl rfl rfl (by omega) ?_;intro v' w' ho' hb' hk') | fail)
     go_roundw
     case rel=>exact⟨i+1,_,by go_num,hlt,ho',qH ((HD2.out.map hk').next (qai H1.out.1.size hB.out.size) (hk' _ _ _ _ hR.out)),hb'⟩
     case measure=>simp [intOf];omega
  ·obtain rfl:i=n:=by omega
   go_wp2_with fail
   go_ret
   exact⟨_,vs,_,rfl,H1.out.1.size,hO.out,hD.out,H1.out.1.trans (hB.out.mono H1.out.1.size)⟩
end Go.Proofs.YtfminfgabiipjaaGreatDoor
