/- Ae, part 17: Least9 -/
import Derived.Test.YtfminfgabiipjaaGreatDoorAe0
import Derived.Test.YtfminfgabiipjaaGreatDoorAe16
set_option maxRecDepth 100000
set_option maxHeartbeats 16000000
namespace Go.Proofs.YtfminfgabiipjaaGreatDoor.least
open Go.RowKit
theorem qdV (K:Nat) (hK:K≤137438953472) (am:Option Addr) (bm om cm lm:Nat) (M:List Nat) (ao:Option Addr) (bo oo co n:Nat) (O:List Nat) (w:World) (Im:IsM w am bm om cm lm M) (Io:IsM w ao bo oo co n O)
  (hx:Fit (mval M) K) (hy:Fit (mval O) K) (hn2:2≤n) (hle:mval O≤mval M) :
  Calls Tryz.prog 75 #[.slice am lm cm,.slice ao n co] w fun e w'=>∃q r,e=.returned (.tuple #[q,r])∧Below w.heap.size w w'∧MagAt w' q (mval M / mval O)∧MagAt w' r (mval M % mval O):=by
 have hlm:lm≤137438953472:=qak (hx.len Im) hK
 have hnm:n≤lm:=by rw [←Io.len];exact Io.nrm.len (qa7 hle (by have:=Im.dig.lt;rwa [Im.len] at this))
 have hcmp:=fun W hm ho=>qcb (mval M) (mval O) K (by omega) (.slice am lm cm) (.slice ao n co) W hm ho hx hy
 obtain⟨cr,hcr⟩:∃cr,cmp3 (mval M) (mval O)=cr:=⟨_,rfl⟩
 have hcr0:¬cr<0:=by rw [←hcr];unfold cmp3;split <;> (try split) <;> omega
 rw [hcr] at hcmp
 have hco1:=hcmp w ⟨am,bm,om,cm,lm,M,rfl,Im,rfl⟩ ⟨ao,bo,oo,co,n,O,rfl,Io,rfl⟩
 have HC:=qH hco1
 have hao:=Io.addr (by omega)
 subst hao
 have ht:=Io.nrm.resolve_left (by have:=Io.len;omega)
 rw [Io.len] at ht
 obtain⟨t,htt⟩:∃t,dg O (n-1)=t:=⟨_,rfl⟩
 have ht2:O.getD (n-1) 0=t:=htt
 have ht0:0<t:=by omega
 have ht1:t<1000000000:=by rw [←htt];exact Io.dig (n-1)
 obtain⟨s,hs⟩:∃s,1000000000 / (t+1)=s:=⟨_,rfl⟩
 obtain⟨hs0,hs1,hs2,hs3⟩:=qeA ht0 ht1 hs
 obtain⟨t1,ht1e⟩:∃t1,t+1=t1:=⟨_,rfl⟩
 rw [ht1e] at hs
 have i1:(t:Int)+1=t1:=by omega
 have i2:(t1:Int) % 4294967296=t1:=by omega
 have i3:(1000000000:Int).tdiv t1=s:=tdivN 1000000000 t1 s hs
 have i4:(s:Int) % 4294967296=s:=by omega
 have i5:((t1:Int) == 0)=false:=by rw [beq_eq_false_iff_ne];omega
 have i6:¬t1=0:=by omega
 have i7:((n-1:Nat):Int)=(n:Int)-1:=by omega
 have i8:((n:Int) == 1)=false:=by rw [beq_eq_false_iff_ne];omega
 obtain⟨l1,hl1⟩:∃l1,lm+1=l1:=⟨_,rfl⟩
 obtain⟨l0,hl0⟩:∃l0,lm-n=l0:=⟨_,rfl⟩
 obtain⟨l2,hl2⟩:∃l2,l0+1=l2:=⟨_,rfl⟩
 have i9:(lm:Int)+1=l1:=by omega
 have i10:(lm:Int)-n=l0:=by omega
 have i11:(l0:Int)+1=l2:=by omega
 have hmk:=run_make_row' (P:=Tryz.prog) 81 106 (.int .u32 0) 4 Tryz.underlying81 qcF rfl .i64 .i64 l1 (by omega) (by omega)
 have hmk2:=run_make_row' (P:=Tryz.prog) 81 106 (.int .u32 0) 4 Tryz.underlying81 qcF rfl .i64 .i64 l2 (by omega) (by omega)
 have Hl:=qH (qA hl1 (qA hl0 (qA hl2 hle)))
 have HK:=qH hK
 have hl1b:l1≤137438953473:=by omega
 have hl2b:l2≤137438953473:=by omega
 have HM:=qH Im
 have HO:=qH Io
 have Hx:=qH hx
 have Hy:=qH hy
 have Hs:=qH (qA hs0 (qA hs1 (qA ht2 (qA ht1e hs))))
 have Hmk:=qH hmk
 have Hmk2:=qH hmk2
 clear hcmp hcr hco1 ht htt ht2 ht0 ht1 hs hs0 hs1 hs2 hs3 ht1e Im Io hx hy hle hK hmk hmk2 hl1 hl0 hl2
 go_enter Tryz.func75,Tryz.ntmps75
 go_wp2_with fail
 refine HC.out.mono ?_
 rintro e w1 ⟨rfl,hb1⟩
 have hoc:=(HO.out.below hb1).cell (n-1) (by omega)
 rw [show dg O (n-1)=t from Hs.out.2.2.1] at hoc
 have HB1:=qH hb1
 clear hb1
 go_wp2_with fail
 have htm:=qb4 (mval O) s K 1 (by have:=HK.out;omega) (.slice (some ⟨bo,oo,none⟩) n co) (.slice (some ⟨w1.heap.size,0,none⟩) 1 1) (w1.alloc (.cells #[.int .u32 (s:Int)] 106)) ⟨_,bo,oo,co,n,O,rfl,(HO.out.below HB1.out).below (qB.alloc qN _),rfl⟩ (qdq w1 _ Hs.out.1 (by have:=Hs.out.2.1;omega)) Hy.out (by unfold Fit;have:=Hs.out.2.1;omega)
 refine htm.mono ?_
 clear htm
 rintro e w2 ⟨v,rfl,hb2,hv⟩
 obtain⟨av,bv,ov,cv,nv,V,rfl,Iv,hVv⟩:=hv
 have hsd:=qdS HO.out.dig HO.out.len (by omega) HO.out.nrm (by rw [Hs.out.2.2.1,Hs.out.2.2.2.1];exact Hs.out.2.2.2.2) Iv.dig Iv.nrm hVv
 have hnv:nv=n:=by rw [←Iv.len];exact hsd.1
 subst hnv
 have hbw:Below w.heap.size w w2:=HB1.out.trans ((qB.alloc qN _:Below w1.heap.size w1 (w1.alloc (.cells #[.int .u32 (s:Int)] 106))).trans (hb2.mono (by simp only [qab];omega)) |>.mono HB1.out.size)
 have hav:=Iv.addr (by omega)
 subst hav
 have HV:=qH (qA Iv (qA hVv hsd.2))
 have HBW:=qH hbw
 clear Iv hVv hsd hb2 hbw
 have hmk:=Hmk.out
 go_wp2_with fail
 clear hmk
 have htm:=qb4 (mval M) s K 1 (by have:=HK.out;omega) (.slice am lm cm) (.slice (some ⟨w2.heap.size+1,0,none⟩) 1 1) ((w2.alloc (.cells (madeCells #[.int .u32 0] l1) 106)).alloc (.cells #[.int .u32 (s:Int)] 106)) ⟨_,bm,om,cm,lm,M,rfl,((HM.out.below HBW.out).below (qB.alloc qN _)).below (qB.alloc qN _),rfl⟩ (by have:=qdq (w2.alloc (.cells (madeCells #[.int .u32 0] l1) 106)) 106 Hs.out.1 (by have:=Hs.out.2.1;omega);rwa [qab] at this) Hx.out (by unfold Fit;have:=Hs.out.2.1;omega)
 refine htm.mono ?_
 clear htm
 rintro e w4 ⟨v4,rfl,hb4,hv4⟩
 obtain⟨at4,bt,ot,ct,nt,T,rfl,It,hTv⟩:=hv4
 have hrow:w4.heap[w2.heap.size]? = some (.cells (row32 (List.replicate l1 0)).toArray 106 (0,0)):=by
  rw [hb4.block w2.heap.size (by simp only [qab];omega),qL _ _ _ (by simp only [qab];omega)]
  exact qeY w2 l1 _
 have hbw4:Below w2.heap.size w2 w4:=(((qB.alloc qN _).alloc (by simp only [qab];omega) _).trans (hb4.mono (by simp only [qab];omega)))
 have hnt:nt≤l1:=by
  rw [←It.len,←Hl.out.1]
  refine It.nrm.len ?_
  rw [hTv,qaz]
  have h1:=HM.out.dig.lt
  rw [HM.out.len] at h1
  exact Nat.mul_lt_mul'' h1 (by have:=Hs.out.2.1;omega)
 have hTl:=It.len
 have htc:∀j v,(row32 T)[j]? = some v→∀ad:Addr,at4=some ad→w4.cell? (ad.add j)=some v:=by
  intro j v hj ad had
  have hjl:j<nt:=by
   have:=(qa3.1 hj).1
   rw [qbG] at this;omega
  have h1:=It.addr (by omega)
  rw [h1] at had
  cases had
  rw [qb3 T j (by omega)] at hj
  rw [←hj]
  rw [addr_add];exact It.cell j hjl
 have HT:=qH (qA It (qA hTv (qA hrow (qA hbw4 htc))))
 clear It hTv hrow hbw4 htc hb4
 have hmk:=Hmk2.out
 go_wp2_with (first | (with_reducible refine wpList_copy_splice rfl (.tmp 49) (.tmp 53) 81 81 rfl 106 Tryz.underlying81 (by kernel_rfl) (some ⟨w2.heap.size,0,none⟩) at4 l1 l1 nt ct rfl rfl w2.heap.size 0 (row32 (List.replicate l1 0)) 106 HT.out.2.2.1 (row32 T) (by rw [qbG,hTl];exact (qaK hnt).symm) ?hp ?hf ?h1 w2.heap.size w2 HT.out.2.2.2.1 qN ?hk) | fail)
 case hp =>
  intro h0
  rw [qbG,HT.out.1.len] at h0
  have h1:=HT.out.1.addr h0
  exact⟨_,h1,fun j v hj=>HT.out.2.2.2.2 j v hj _ h1⟩
 case hf=>rw [qbG,qbG,qaY,hTl];omega
 case h1=>exact qgO T
 case hk =>
  intro w5 hrow5 hb5
  rw [qhP _ _ (by rw [qaY,hTl];exact hnt)] at hrow5
  obtain⟨U0,hU0⟩:∃U0,T++(List.replicate l1 0).drop T.length=U0:=⟨_,rfl⟩
  rw [hU0] at hrow5
  have hU0l:U0.length=l1:=by rw [←hU0,qag,qa0,qaY,hTl];omega
  have hU0v:mval U0=mval M*s:=by
   rw [←hU0,qbS,HT.out.2.1,List.drop_replicate,qdc,Nat.mul_zero,qba]
  have hU0d:Dig U0:=by
   rw [←hU0]
   exact HT.out.1.dig.append ((Dig.zeros l1).drop _)
  have hD:=DivInv.start (w:=U0) (v:=V) hU0d (by
   rw [hU0l,hU0v,HV.out.1.len,←Hl.out.1]
   exact qgw HM.out.dig HM.out.len HO.out.len (by omega) HO.out.nrm Hs.out.1 hnm HV.out.2.1) (by rw [hU0l,HV.out.1.len];have:=Hl.out.1;omega)
  have hVw:IsM w5 (some ⟨bv,ov,none⟩) bv ov cv nv V:=HV.out.1.below hb5
  have hbv:bv<w2.heap.size:=qgz HV.out.1 (by omega)
  have hgs:w2.heap.size<w5.heap.size:=(qG (show w5.heap[w2.heap.size]? = _ from hrow5)).1
  have hbw5:Below w.heap.size w w5:=HBW.out.trans (hb5.mono HBW.out.size)
  have HE0:Hid (0<mval V):=qH (by rw [HV.out.2.1];exact Nat.mul_pos (Nat.pos_of_ne_zero (fun h=>by have h1:=HO.out.nrm.zero.1 h;have h2:=HO.out.len;omega)) Hs.out.1)
  have HD:=qH (qA hD (qA hVw (qA hbv (qA hgs (qA hbw5 (qA hrow5 (qA hU0l hU0v)))))))
  clear hD hVw hbv hgs hbw5 hrow5 hU0l hU0v hU0d hU0 hb5 HT hTl hnt HC i1 i2 i3 i4 i5 i6 i7 i8
  go_wp2_with fail
  go_loopw [12] (fun x12 W=>∃(k:Nat) (z:Int) (Q U:List Nat),k≤l2∧x12=.int .i64 z∧Hid (z+1=k)∧Hid (DivInv U0 V k Q U)∧Hid (W.ownsRow w2.heap.size 106 1 (.slice (some ⟨w2.heap.size,0,none⟩) l1 l1) l1 (row32 U))∧Hid (W.ownsRow w2.heap.size 106 1 (.slice (some ⟨w5.heap.size,0,none⟩) l2 l2) l2 (row32 Q))∧Hid (IsM W (some ⟨bv,ov,none⟩) bv ov cv nv V)∧Hid (Below w.heap.size w W)) (fun x12 _=>(intOf x12+1).toNat)
  case atStart =>
   have e1:U0.length-V.length=l2:=by rw [HD.out.2.2.2.2.2.2.1,HV.out.1.len];have:=Hl.out;omega
   refine⟨l2,_,List.replicate l2 0,U0,qah _,rfl,qH (by omega),qH ?_,qH ?_,qH ?_,qH ?_,qH ?_⟩
   ·have:=HD.out.1
    rwa [e1] at this
   ·refine qgh ?_ HD.out.2.2.2.2.2.2.1 qN (by unfold maxLen;omega)
    rw [qL _ _ _ HD.out.2.2.2.1]
    exact HD.out.2.2.2.2.2.1
   ·exact qgh (qeY w5 l2 _) (by rw [qaY]) (qaC HD.out.2.2.2.1) (by unfold maxLen;omega)
   ·exact HD.out.2.1.below (qB.alloc qN _)
   ·exact HD.out.2.2.2.2.1.trans ((qB.alloc qN _:Below w5.heap.size w5 _).mono HD.out.2.2.2.2.1.size)
  case round =>
   obtain⟨k,z,Q,U,hk,rfl,hz,hI,hOu,hOq,hVw,hB⟩:=hrel
   by_cases hk0:0<k
   ·obtain⟨j,rfl⟩:∃j,k=j+1:=⟨k-1,by omega⟩
    obtain rfl:z=(j:Int):=by have:=hz.out;omega
    have hjn:(j:Int)+nv+1≤l1:=by have:=Hl.out;omega
    have hjn2:(j:Int)≤(j:Int)+nv+1:=by omega
    have hj2:(j:Int)<l2:=by omega
    go_wp2_with fail
    rw [show j+nv+1-j=nv+1 by omega]
    have hUl:U.length=l1:=hI.out.lenu.trans HD.out.2.2.2.2.2.2.1
    have hVl:V.length=nv:=HV.out.1.len
    obtain⟨A,hA⟩:∃A,U.take j=A:=⟨_,rfl⟩
    obtain⟨u,hu⟩:∃u,(U.drop j).take (nv+1)=u:=⟨_,rfl⟩
    obtain⟨C,hC⟩:∃C,U.drop (j+(nv+1))=C:=⟨_,rfl⟩
    have hsplit:U=A++u++C:=by
     rw [←hA,←hu,←hC,qaH,←List.drop_drop,List.take_append_drop,List.take_append_drop]
    have hAl:A.length=j:=by rw [←hA,qap];omega
    have hpart:=hI.out.part (by rw [HD.out.2.2.2.2.2.2.1,hVl];omega)
    rw [hVl,hu] at hpart
    have hE:Est u V nv:=⟨by omega,hpart.2.1,hVl,hpart.2.2,HV.out.1.dig,HV.out.2.2,hpart.1⟩
    have hOu2:=hOu.out
    rw [hsplit] at hOu2
    have hbg:bv≠w2.heap.size:=by have:=HD.out.2.2.1;omega
    have hbq:bv≠w5.heap.size:=by have:=HD.out.2.2.1;have:=HD.out.2.2.2.1;omega
    have hgq:w2.heap.size≠w5.heap.size:=by have:=HD.out.2.2.2.1;omega
    refine (qez A u C V nv j l1 (l1-j) l1 w2.heap.size w2.heap.size (some ⟨bv,ov,none⟩) bv ov cv wr hAl hE hOu2 hVw.out hbg (by omega) (by omega)).mono ?_
    rintro e w6 ⟨R,x,rfl,hR,hG,hOu3⟩
    have hstep:=hI.out.step (R:=R) (x:=x) (by rw [HD.out.2.2.2.2.2.2.1,hVl];omega) HE0.out (by rw [hVl,hu];exact hR)
    rw [hVl,hA,hC] at hstep
    have hOq2:=qe0 hOq.out hG (Ne.symm hgq)
    have hQl:Q.length=l2:=by rw [hI.out.lenq,HD.out.2.2.2.2.2.2.1,hVl];have:=Hl.out;omega
    have hcr:w6.cell? ⟨w5.heap.size,j,none⟩=some (.int .u32 ((dg Q j:Nat):Int)):=(hOq2.cellAt j (by omega)).trans (qb3 Q j (by omega))
    have hfr:w6.frozen? ⟨w5.heap.size,j,none⟩=false:=hOq2.frozenAt j
    have hOq3:=qch hOq2 j x rfl
    have hG2:=qdu hOq2 j (.int .u32 (x:Int))
    have hOu4:=qe0 hOu3 hG2 hgq
    have hV2:=qeW (qeW hVw.out hG hbg) hG2 hbq
    have hB6:Below w.heap.size w w6:=hB.out.grown hG hB.out.size (fun i hi=>by cases hi;exact HBW.out.size)
    have hB7:Below w.heap.size w (w6.setCell ⟨w5.heap.size,j,none⟩ (.int .u32 (x:Int))):=hB6.setCell (qak HBW.out.size (qaC HD.out.2.2.2.1)) _
    have HR:=qH (qA hstep (qA hOu4 (qA hOq3 (qA hV2 hB7))))
    clear hstep hOu3 hOu4 hOq2 hOq3 hV2 hB6 hB7 hG hG2 hR hQl hpart hE hOu2 hUl hVl hAl hsplit hA hu hC hbg hbq hgq
    go_wp2_with fail
    go_roundw
    case rel=>exact⟨j,_,_,_,by omega,rfl,qH (by omega),qH HR.out.1,qH HR.out.2.1,qH HR.out.2.2.1,qH HR.out.2.2.2.1,qH HR.out.2.2.2.2⟩
    case measure=>simp [intOf]
   ·obtain rfl:k=0:=by omega
    obtain rfl:z = -1:=by have:=hz.out;omega
    have hUl:U.length=l1:=hI.out.lenu.trans HD.out.2.2.2.2.2.2.1
    have hVl:V.length=nv:=HV.out.1.len
    have hQl:Q.length=l2:=by rw [hI.out.lenq,HD.out.2.2.2.2.2.2.1,hVl];have:=Hl.out;omega
    have hnl:(nv:Int)≤l1:=by have:=Hl.out;omega
    have hval:=hI.out.val
    have hsm:=hI.out.small
    rw [List.drop_zero,Nat.pow_zero,Nat.mul_one,HD.out.2.2.2.2.2.2.2,HV.out.2.1] at hval
    rw [Nat.pow_zero,qbl,HV.out.2.1] at hsm
    have hend:=qiG Hs.out.1 hval hsm
    have hz0:=hI.out.zero
    rw [hVl,qaW] at hz0
    have htk:mval (U.take nv)=mval U:=qbO hz0
    have ht1:=qci (some ⟨w2.heap.size,0,none⟩) w2.heap.size 0 l1 nv (U.take nv) wr (by rw [qap];omega) (by omega) (by omega) ((qbX hOu.out hUl).take nv) (hI.out.digu.take nv)
    rw [htk] at ht1
    have HT1:=qH ht1
    have HF:=qH (qA hUl (qA hQl (qA hend hsm)))
    clear ht1 hUl hVl hQl hval hsm hend hz0 htk
    go_wp2_with fail
    refine HT1.out.mono ?_
    rintro e w6 ⟨v6,rfl,rfl,hv6⟩
    have hsh:=qdD (mval U) (nv+1) s (by omega) Hs.out.1 (by have:=Hs.out.2.1;omega) v6 w6 hv6 (by
     refine qal HF.out.2.2.2 (qaC ?_)
     rw [qaz]
     have h1:=HO.out.dig.lt
     rw [HO.out.len] at h1
     exact Nat.mul_lt_mul'' h1 (by have:=Hs.out.2.1;omega))
    go_wp2_with fail
    refine hsh.mono ?_
    rintro e w7 ⟨v7,rfl,hb7,hv7⟩
    rw [HF.out.2.2.1.2] at hv7
    have hOq7:=qhG hOq.out hb7
    have ht8:=qci (some ⟨w5.heap.size,0,none⟩) w5.heap.size 0 l2 l2 Q w7 HF.out.2.1 (by omega) qN (qbX hOq7 HF.out.2.1) hI.out.digq
    rw [HF.out.2.2.1.1] at ht8
    have HT8:=qH ht8
    have HV7:=qH (qA hv7 hb7)
    clear ht8 hOq7 hv7 hb7 hsh
    go_wp2_with fail
    refine HT8.out.mono ?_
    rintro e w8 ⟨v8,rfl,rfl,hv8⟩
    have HV8:=qH hv8
    clear hv8
    go_wp2_with fail
    go_ret2
    exact⟨_,_,rfl,hB.out.trans (HV7.out.2.mono hB.out.size),HV8.out,HV7.out.1⟩
end Go.Proofs.YtfminfgabiipjaaGreatDoor.least
