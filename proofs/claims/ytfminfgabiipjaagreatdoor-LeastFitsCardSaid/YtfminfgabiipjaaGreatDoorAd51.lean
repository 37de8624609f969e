/- Ad, part 51: Su Sv Fz -/
import Derived.Test.YtfminfgabiipjaaGreatDoorAd0
import Derived.Test.YtfminfgabiipjaaGreatDoorAd40
import Derived.Test.YtfminfgabiipjaaGreatDoorAd49
set_option maxRecDepth 100000
set_option maxHeartbeats 16000000
namespace Go.Proofs.YtfminfgabiipjaaGreatDoor.p4
open Go.RowKit
theorem qjB {t:Tbl} {bl:List FT} {i j:Nat} (hj:j<(t.getD i []).length):lval (besides t bl i) j=tval t i j:=by
 unfold besides tval lval
 rw [qaa,qaB hj,←qaa]
theorem qke {t:Tbl} {bl:List FT} {i n:Nat} (hn:(t.getD i []).length=n):lval (besides t bl i) n=lval bl i:=by
 subst hn
 unfold besides lval
 rw [qaa,qas qN,qaH]
 rfl
theorem fit_norm {t:Tbl} {bl wl:List FT} {R n j k:Nat} (ht:∀i,i<R→(t.getD i []).length=n) (hj:j<n) (hk:k≤n):fitF R n (tval t) (lval bl) (lval wl) j k=normQ t bl wl R j k:=by
 unfold fitF normQ
 refine qbY fun i hi=>?_
 rw [qjB (by rw [ht i hi];exact hj)]
 by_cases e:k<n
 ·rw [if_pos e,qjB (by rw [ht i hi];exact e)]
 ·obtain rfl:k=n:=by omega
  rw [if_neg e,qke (ht i hi)]
def qht (w:World) (t:Tbl) (bl wl:List FT) (e:Ending) (w':World):Prop :=
  ((¬TOk t∧e=.returned (.tuple #[.slice none 0 0,.int .i64 60])) ∨
   (TOk t∧¬(FAll bl∧FAll wl)∧e=.returned (.tuple #[.slice none 0 0,.int .i64 20])) ∨
   (TOk t∧FAll bl∧FAll wl∧¬(bl.length=t.length∧wl.length=t.length∧¬Neg wl)∧e=.returned (.tuple #[.slice none 0 0,.int .i64 2])) ∨
   (TOk t∧FAll bl∧FAll wl∧bl.length=t.length∧wl.length=t.length∧¬Neg wl ∧
     ((Sing (wid t) (normQ t bl wl t.length)∧e=.returned (.tuple #[.slice none 0 0,.int .i64 7])) ∨
      (¬Sing (wid t) (normQ t bl wl t.length)∧∃x,qcq (wid t) (normQ t bl wl t.length) (fun r=>normQ t bl wl t.length r (wid t)) x∧qh0 (wid t) x e w'))))∧Below w.heap.size w w'
theorem qku (ao:Option Addr) (b off R c:Nat) (t:Tbl) (ao2:Option Addr) (b2 off2 n2 c2:Nat) (l:List FT) (ao3:Option Addr) (b3 off3 n3 c3:Nat) (u:List FT) (w:World) (hl:t.length=R) (hR:R≤1000) (hC:∀k,k<R→(t.getD k []).length≤1000) (hs:qgr t) (hT:TCells w ao b off t)
  (hl2:l.length=n2) (hn2:n2≤1000) (hs2:qgq l) (hF:FCells w ao2 b2 off2 l) (hl3:u.length=n3) (hn3:n3≤1000) (hs3:qgq u) (hF3:FCells w ao3 b3 off3 u) :
  Calls Tryz.prog 23 #[.slice ao R c,.slice ao2 n2 c2,.slice ao3 n3 c3] w fun e w'=>qht w t l u e w':=by
 have HR:=qH (qdw ao b off R c t w hl hR hC hs hT)
 have HLi:=qH (fun (W:World) (hb:Below w.heap.size w W)=>qdD ao2 b2 off2 n2 c2 l W hl2 (by omega) (fun k hk=>hs2 k (by omega)) (hF.below hb))
 have HLi3:=qH (fun (W:World) (hb:Below w.heap.size w W)=>qdD ao3 b3 off3 n3 c3 u W hl3 (by omega) (fun k hk=>hs3 k (by omega)) (hF3.below hb))
 have HWt:=qH (fun (h:FAll u) (W:World) (hb:Below w.heap.size w W)=>qgZ ao R c ao3 b3 off3 n3 c3 u W hl3 (by omega) h (hF3.below hb))
 have HV:=qH (fun (h:FAll l) (W:World) (hb:Below w.heap.size w W)=>qdx ao2 b2 off2 n2 c2 l W hl2 hn2 h (hF.below hb))
 have HV3:=qH (fun (h:FAll u) (W:World) (hb:Below w.heap.size w W)=>qdx ao3 b3 off3 n3 c3 u W hl3 hn3 h (hF3.below hb))
 have HI:=qH (fun (h:TOk t) (W:World) (hb:Below w.heap.size w W)=>qgB ao b off R c (wid t) t W hl hR h.c1 (qai h.c2 (by decide)) (fun k hk=>h.rows k (by omega)) (hT.below hb))
 have HL:=qH (qA hl (qA hl2 hl3))
 clear hl hC hs hT hl2 hs2 hF hl3 hs3 hF3
 go_enter Tryz.func23,Tryz.ntmps23
 go_wp2_with fail
 refine HR.out.mono ?_
 rintro e w2 ⟨r,rfl,hr,hb⟩
 have HX:=qH (qA hr hb)
 clear hr hb
 cases r with
 | false =>
  go_wp2_with fail
  go_ret2
  exact⟨qau ⟨fun h=>absurd (HX.out.1.2 h) (by decide),rfl⟩,HX.out.2⟩
 | true =>
  have ht:=HX.out.1.1 (by first | exact rfl | trivial)
  have HT:=qH ht
  clear ht
  go_wp2_with fail
  refine (HLi.out w2 HX.out.2).mono ?_
  rintro e w3 ⟨r2,rfl,hr2,hb⟩
  have HY:=qH (qA hr2 (HX.out.2.trans (hb.mono HX.out.2.size)))
  clear hr2 hb
  cases r2 with
  | false =>
   go_wp2_with fail
   go_ret2
   exact⟨qaq (qau ⟨HT.out,fun h=>absurd (HY.out.1.2 h.1) (by decide),rfl⟩),HY.out.2⟩
  | true =>
   have hA:=HY.out.1.1 (by first | exact rfl | trivial)
   have HA:=qH hA
   clear hA
   go_wp2_with fail
   refine (HLi3.out w3 HY.out.2).mono ?_
   rintro e w4 ⟨r3,rfl,hr3,hb⟩
   have HY3:=qH (qA hr3 (HY.out.2.trans (hb.mono HY.out.2.size)))
   clear hr3 hb
   cases r3 with
   | false =>
    go_wp2_with fail
    go_ret2
    exact⟨qaq (qau ⟨HT.out,fun h=>absurd (HY3.out.1.2 h.2) (by decide),rfl⟩),HY3.out.2⟩
   | true =>
    have hA3:=HY3.out.1.1 (by first | exact rfl | trivial)
    have HA3:=qH hA3
    clear hA3
    have hR0:0<R:=by have:=HT.out.r1;have:=HL.out.1;omega
    obtain⟨n,hn⟩:∃n,wid t=n:=⟨_,rfl⟩
    have HN:=qH hn
    clear hn
    by_cases h2:n2=R
    case neg =>
     have hb2:((n2:Int) != (R:Int))=true:=by rw [bne_iff_ne];omega
     have HNe:=qH h2
     clear h2
     go_wp2_with fail
     go_ret2
     exact⟨qaq (qaq (qau ⟨HT.out,HA.out,HA3.out,fun h=>HNe.out (by have:=HL.out.1;have:=HL.out.2.1;have:=h.1;omega),rfl⟩)),HY3.out.2⟩
    subst h2
    have hb2:((n2:Int) != (n2:Int))=false:=by simp
    go_wp2_with fail
    refine (HWt.out HA3.out w4 HY3.out.2).mono ?_
    rintro e w5 ⟨r5,rfl,hr5,hb⟩
    have HB5:=qH (qA hr5 (HY3.out.2.trans (hb.mono HY3.out.2.size)))
    clear hr5 hb
    cases r5 with
    | false =>
     go_wp2_with fail
     go_ret2
     exact⟨qaq (qaq (qau ⟨HT.out,HA.out,HA3.out,fun h=>absurd (HB5.out.1.2 ⟨by have:=HL.out.1;have:=HL.out.2.2;have:=h.2.1;omega,h.2.2⟩) (by decide),rfl⟩)),HB5.out.2⟩
    | true =>
     have hwt:=HB5.out.1.1 (by first | exact rfl | trivial)
     obtain⟨h3,hneg⟩:=hwt
     subst h3
     have HNg:=qH hneg
     clear hneg
     go_wp2_with fail
     refine (HI.out HT.out w5 HB5.out.2).mono ?_
     rintro e w6 ⟨va,rfl,hqa,hb6⟩
     rw [HN.out] at hqa
     have HB6:=qH (qA hqa (HB5.out.2.trans (hb6.mono HB5.out.2.size)))
     clear hqa hb6
     go_wp2_with fail
     refine (HV.out HA.out w6 HB6.out.2).mono ?_
     rintro e w7 ⟨vb,rfl,hqb,hb7⟩
     have HB7:=qH (qA hqb (qA (HB6.out.1.below hb7) (HB6.out.2.trans (hb7.mono HB6.out.2.size))))
     clear hqb hb7
     go_wp2_with fail
     refine (HV3.out HA3.out w7 HB7.out.2.2).mono ?_
     rintro e w8 ⟨vu,rfl,hqu,hb8⟩
     have hpw:5 ^ (n+2)*(n3*(3*150+1)+1)≤17592186000000:=by
      have e1:5 ^ (n+2)≤5 ^ 12:=qaC (by decide) (by have:=HT.out.c2;have:=HN.out;omega)
      have e2:n3*(3*150+1)+1≤40*(3*150+1)+1:=by have:=HT.out.r2;have:=HL.out.1;omega
      exact qai (Nat.mul_le_mul e1 e2) (by decide)
     have HFi:=qH (qj7 n3 n 150 _ _ _ va vb vu (tval t) (lval l) (lval u) w8 hR0 (by have:=HT.out.r2;have:=HL.out.1;omega) (by have:=HT.out.c1;have:=HN.out;omega) (by have:=HT.out.c2;have:=HN.out;omega) (by decide) hpw (by omega) (HB7.out.2.1.below hb8) (HB7.out.1.below hb8) hqu (fun i hi j hj=>qeH HT.out (by have:=HL.out.1;omega) (by rw [HN.out];exact hj)) (fun i hi=>qda HA.out (by have:=HL.out.2.1;omega)) (fun i hi=>qda HA3.out (by have:=HL.out.2.2;omega)))
     have HB8:=qH (HB7.out.2.2.trans (hb8.mono HB7.out.2.2.size))
     clear hqu hb8 hpw
     go_wp2_with fail
     refine HFi.out.mono ?_
     rintro e w9 ⟨h9,hb9⟩
     have HB9:=qH (HB8.out.trans (hb9.mono HB8.out.size))
     clear hb9 HFi
     have hfn:∀j,j<n→∀k,k≤n→fitF n3 n (tval t) (lval l) (lval u) j k=normQ t l u n3 j k:=fun j hj k hk=>fit_norm (fun i hi=>by rw [(HT.out.rows i (by have:=HL.out.1;omega)).1,HN.out]) hj hk
     have HFn:=qH hfn
     clear hfn
     rcases h9 with ⟨hs,rfl⟩ | ⟨hs,x,v,hx,rfl,hq,hfx⟩
     ·have HS:=qH (hs.congr fun i hi j hj=>HFn.out i hi j (by omega))
      clear hs
      go_wp2_with fail
      go_ret2
      exact⟨qaq (qaq (qaq ⟨HT.out,HA.out,HA3.out,by have:=HL.out.1;have:=HL.out.2.1;omega,by have:=HL.out.1;have:=HL.out.2.2;omega,HNg.out,qau ⟨by rw [HL.out.1,HN.out];exact HS.out,rfl⟩⟩)),HB9.out⟩
     ·obtain⟨gx,cx,rfl,_,_,hrx⟩:=hq.row (by have:=HT.out.c1;have:=HN.out;omega)
      have hpw:5 ^ (n+1)*(n3*(3*150+1)+1)≤17592186000000:=by
       have e1:5 ^ (n+1)≤5 ^ 12:=qaC (by decide) (by have:=HT.out.c2;have:=HN.out;omega)
       have e2:n3*(3*150+1)+1≤40*(3*150+1)+1:=by have:=HT.out.r2;have:=HL.out.1;omega
       exact qai (Nat.mul_le_mul e1 e2) (by decide)
      have HTo:=qH (qj0 gx n cx x (5 ^ (n+1)*(n3*(3*150+1)+1)) (qbx (Nat.pow_pos (by decide)) (Nat.succ_pos _)) hpw w9 (by have:=HT.out.c2;have:=HN.out;omega) hrx hfx)
      have HS:=qH (qA (fun h:Sing n (normQ t l u n3)=>hs (h.congr fun i hi j hj=>(HFn.out i hi j (by omega)).symm)) (hx.congr (fun i hi j hj=>HFn.out i hi j (by omega)) (fun i hi=>HFn.out i hi n qN) fun _ _=>rfl))
      clear hs hx hq hrx hfx hpw
      go_wp2_with fail
      refine HTo.out.mono ?_
      rintro e w10 ⟨ht,hb10⟩
      have HB10:=qH (HB9.out.trans (hb10.mono HB9.out.size))
      have HZ:=qH ht
      clear hb10 ht HTo
      have hfin:∀e,qh0 n x e w10→qht w t l u e w10:=fun e h=>⟨qaq (qaq (qaq ⟨HT.out,HA.out,HA3.out,by have:=HL.out.1;have:=HL.out.2.1;omega,by have:=HL.out.1;have:=HL.out.2.2;omega,HNg.out,qaq (by rw [HL.out.1,HN.out];exact⟨HS.out.1,x,HS.out.2,h⟩)⟩)),HB10.out⟩
      have HFin:=qH hfin
      clear hfin
      rcases HZ.out with ⟨_,ao4,g4,c4,rfl,_⟩ | ⟨_,rfl⟩
      ·go_wp2_with fail
       go_ret2
       exact HFin.out _ HZ.out
      ·go_wp2_with fail
       go_ret2
       exact HFin.out _ HZ.out
instance stays_exq {v:Value} {n:Nat} {f:Nat→Rat}:Stays fun W=>∃B,QList W B v n f:=⟨fun⟨B,h⟩ hb=>⟨B,h.below hb⟩⟩
theorem qiy (ao:Option Addr) (b off R c:Nat) (t:Tbl) (ao2:Option Addr) (b2 off2 n2 c2:Nat) (l:List FT) (ao3:Option Addr) (b3 off3 n3 c3:Nat) (u:List FT) (ao4:Option Addr) (b4 off4 n4 c4:Nat) (x:List FT) (w:World) (hl:t.length=R) (hR:R≤1000) (hC:∀k,k<R→(t.getD k []).length≤1000) (hs:qgr t) (hT:TCells w ao b off t)
  (hl2:l.length=n2) (hn2:n2≤1000) (hs2:qgq l) (hF:FCells w ao2 b2 off2 l) (hl3:u.length=n3) (hn3:n3≤1000) (hs3:qgq u) (hF3:FCells w ao3 b3 off3 u) (hl4:x.length=n4) (hn4:n4≤1000) (hs4:qgq x) (hF4:FCells w ao4 b4 off4 x) :
  Calls Tryz.prog 25 #[.slice ao R c,.slice ao2 n2 c2,.slice ao3 n3 c3,.slice ao4 n4 c4] w fun e w'=>qek w t l u x e w':=by
 have HR:=qH (fun (W:World) (hb:Below w.heap.size w W)=>qdw ao b off R c t W hl hR hC hs (hT.below hb))
 have HLi:=qH (fun (W:World) (hb:Below w.heap.size w W)=>qdD ao2 b2 off2 n2 c2 l W hl2 (by omega) (fun k hk=>hs2 k (by omega)) (hF.below hb))
 have HLi3:=qH (fun (W:World) (hb:Below w.heap.size w W)=>qdD ao3 b3 off3 n3 c3 u W hl3 (by omega) (fun k hk=>hs3 k (by omega)) (hF3.below hb))
 have HLi4:=qH (fun (W:World) (hb:Below w.heap.size w W)=>qdD ao4 b4 off4 n4 c4 x W hl4 (by omega) (fun k hk=>hs4 k (by omega)) (hF4.below hb))
 have HWt:=qH (fun (h:FAll u) (W:World) (hb:Below w.heap.size w W)=>qgZ ao R c ao3 b3 off3 n3 c3 u W hl3 (by omega) h (hF3.below hb))
 have HV4:=qH (fun (h:FAll x) (W:World) (hb:Below w.heap.size w W)=>qdx ao4 b4 off4 n4 c4 x W hl4 hn4 h (hF4.below hb))
 have HL:=qH (qA hl (qA hl2 (qA hl3 (qA hl4 (qA hT (qA hF hF3))))))
 clear hl hC hs hT hl2 hs2 hF hl3 hs3 hF3 hl4 hs4 hF4
 obtain⟨W1,hW1⟩:∃W1,W1=w.alloc (.cells #[.string ⟨#[]⟩,.string ⟨#[]⟩] 46):=⟨_,rfl⟩
 have K1:Kn (fun W=>Below w.heap.size w W∧W.heap[w.heap.size]? = some (.cells #[.string ⟨#[]⟩,.string ⟨#[]⟩] 46 (0,0))) W1:=.of ⟨hW1▸qbI qB qN,hW1▸qM _ _ _ rfl⟩
 have HS1:=qH (show W1.heap.size=w.heap.size+1 by rw [hW1,qab])
 go_enter Tryz.func25,Tryz.ntmps25
 go_wp2_with fail
 rw [←hW1]
 clear hW1
 refine (HR.out _ K1.out.1).mono ?_
 rintro e w2 ⟨r,rfl,hr,hb⟩
 have K2:=K1.below hb
 have HX:=qH (qA hr hb.size)
 clear hr hb K1
 cases r with
 | false =>
  have r8:=K2.out.2
  go_wp2_with (first | ((with_reducible refine wpList_store_row rfl 46 _ _ rfl (w.heap.size) #[.string ⟨#[]⟩,.string ⟨#[]⟩] ?_ ?_ 46 _ r8 2 ?_ ?_ ?_ ?_ ?_);(next=>rfl);(next=>rfl);(next=>kernel_rfl);(next=>rfl);(next=>rfl);(next=>rfl)) | fail)
  exact bodyPost_ret (v:=.tuple #[.agg #[.string ⟨#[]⟩,.string ⟨#[]⟩],.int .i64 60]) (qbS rfl _ _ (w.heap.size) 46 _ _ rfl (setRow_heap _ _ _ _ _ _ r8) Tryz.underlying46 rfl 2 (by kernel_rfl) rfl _ rfl) rfl ⟨qau ⟨fun h=>absurd (HX.out.1.2 h) (by decide),rfl⟩,below_setRow K2.out.1 qN _⟩
 | true =>
  have HT:=qH (HX.out.1.1 (by first | exact rfl | trivial))
  go_wp2_with fail
  refine (HLi.out _ K2.out.1).mono ?_
  rintro e w3 ⟨r2,rfl,hr2,hb⟩
  have K3:=K2.below hb
  have HY2:=qH (qA hr2 hb.size)
  clear hr2 hb K2
  have bad20:∀W:World,Below w.heap.size w W→¬(FAll l∧FAll u∧FAll x)→qek w t l u x (.returned (.tuple #[.agg #[.string ⟨#[]⟩,.string ⟨#[]⟩],.int .i64 20])) W:=fun W hb h=>⟨qaq (qau ⟨HT.out,h,rfl⟩),hb⟩
  have HB20:=qH bad20
  clear bad20
  cases r2 with
  | false =>
   have r8:=K3.out.2
   go_wp2_with (first | ((with_reducible refine wpList_store_row rfl 46 _ _ rfl (w.heap.size) #[.string ⟨#[]⟩,.string ⟨#[]⟩] ?_ ?_ 46 _ r8 2 ?_ ?_ ?_ ?_ ?_);(next=>rfl);(next=>rfl);(next=>kernel_rfl);(next=>rfl);(next=>rfl);(next=>rfl)) | fail)
   exact bodyPost_ret (v:=.tuple #[.agg #[.string ⟨#[]⟩,.string ⟨#[]⟩],.int .i64 20]) (qbS rfl _ _ (w.heap.size) 46 _ _ rfl (setRow_heap _ _ _ _ _ _ r8) Tryz.underlying46 rfl 2 (by kernel_rfl) rfl _ rfl) rfl (HB20.out _ (below_setRow K3.out.1 qN _) fun h=>absurd (HY2.out.1.2 h.1) (by decide))
  | true =>
   have HA2:=qH (HY2.out.1.1 (by first | exact rfl | trivial))
   go_wp2_with fail
   refine (HLi3.out _ K3.out.1).mono ?_
   rintro e w4 ⟨r3,rfl,hr3,hb⟩
   have K4:=K3.below hb
   have HY3:=qH (qA hr3 hb.size)
   clear hr3 hb K3
   cases r3 with
   | false =>
    have r8:=K4.out.2
    go_wp2_with (first | ((with_reducible refine wpList_store_row rfl 46 _ _ rfl (w.heap.size) #[.string ⟨#[]⟩,.string ⟨#[]⟩] ?_ ?_ 46 _ r8 2 ?_ ?_ ?_ ?_ ?_);(next=>rfl);(next=>rfl);(next=>kernel_rfl);(next=>rfl);(next=>rfl);(next=>rfl)) | fail)
    exact bodyPost_ret (v:=.tuple #[.agg #[.string ⟨#[]⟩,.string ⟨#[]⟩],.int .i64 20]) (qbS rfl _ _ (w.heap.size) 46 _ _ rfl (setRow_heap _ _ _ _ _ _ r8) Tryz.underlying46 rfl 2 (by kernel_rfl) rfl _ rfl) rfl (HB20.out _ (below_setRow K4.out.1 qN _) fun h=>absurd (HY3.out.1.2 h.2.1) (by decide))
   | true =>
    have HA3:=qH (HY3.out.1.1 (by first | exact rfl | trivial))
    go_wp2_with fail
    refine (HLi4.out _ K4.out.1).mono ?_
    rintro e w5 ⟨r4,rfl,hr4,hb⟩
    have K5:=K4.below hb
    have HY4:=qH (qA hr4 hb.size)
    clear hr4 hb K4
    cases r4 with
    | false =>
     have r8:=K5.out.2
     go_wp2_with (first | ((with_reducible refine wpList_store_row rfl 46 _ _ rfl (w.heap.size) #[.string ⟨#[]⟩,.string ⟨#[]⟩] ?_ ?_ 46 _ r8 2 ?_ ?_ ?_ ?_ ?_);(next=>rfl);(next=>rfl);(next=>kernel_rfl);(next=>rfl);(next=>rfl);(next=>rfl)) | fail)
     exact bodyPost_ret (v:=.tuple #[.agg #[.string ⟨#[]⟩,.string ⟨#[]⟩],.int .i64 20]) (qbS rfl _ _ (w.heap.size) 46 _ _ rfl (setRow_heap _ _ _ _ _ _ r8) Tryz.underlying46 rfl 2 (by kernel_rfl) rfl _ rfl) rfl (HB20.out _ (below_setRow K5.out.1 qN _) fun h=>absurd (HY4.out.1.2 h.2.2) (by decide))
    | true =>
     have HA4:=qH (HY4.out.1.1 (by first | exact rfl | trivial))
     have bad2:∀W:World,Below w.heap.size w W→¬(l.length=t.length∧u.length=t.length∧x.length=wid t∧¬Neg u)→qek w t l u x (.returned (.tuple #[.agg #[.string ⟨#[]⟩,.string ⟨#[]⟩],.int .i64 2])) W:=fun W hb h=>⟨qaq (qaq (qau ⟨HT.out,HA2.out,HA3.out,HA4.out,h,rfl⟩)),hb⟩
     have HB2:=qH bad2
     clear bad2
     have hR0:0<R:=by have:=HT.out.r1;have:=HL.out.1;omega
     have har:=HL.out.2.2.2.2.1.addr (by have:=HL.out.1;omega)
     subst har
     obtain⟨ra,rb,ro,rc,d0,_⟩:=(HL.out.2.2.2.2.1.below K5.out.1).row 0 (by have:=HL.out.1;omega)
     rw [←qmn,qba] at d0
     obtain⟨n,hn⟩:∃n,wid t=n:=⟨_,rfl⟩
     rw [hn] at d0
     have HN:=qH hn
     clear hn
     have hR0i:(0:Int)<R:=by omega
     by_cases h2:n2=R
     case neg =>
      have hb2:((n2:Int) != (R:Int))=true:=by rw [bne_iff_ne];omega
      have HNe:=qH h2
      clear h2
      have r8:=K5.out.2
      go_wp2_with (first | ((with_reducible refine wpList_store_row rfl 46 _ _ rfl (w.heap.size) #[.string ⟨#[]⟩,.string ⟨#[]⟩] ?_ ?_ 46 _ r8 2 ?_ ?_ ?_ ?_ ?_);(next=>rfl);(next=>rfl);(next=>kernel_rfl);(next=>rfl);(next=>rfl);(next=>rfl)) | fail)
      exact bodyPost_ret (v:=.tuple #[.agg #[.string ⟨#[]⟩,.string ⟨#[]⟩],.int .i64 2]) (qbS rfl _ _ (w.heap.size) 46 _ _ rfl (setRow_heap _ _ _ _ _ _ r8) Tryz.underlying46 rfl 2 (by kernel_rfl) rfl _ rfl) rfl (HB2.out _ (below_setRow K5.out.1 qN _) fun h=>HNe.out (by have:=HL.out.1;have:=HL.out.2.1;have:=h.1;omega))
     subst h2
     have hb2:((n2:Int) != (n2:Int))=false:=by simp
     by_cases h4:n4=n
     case neg =>
      have hb4:((n4:Int) != (n:Int))=true:=by rw [bne_iff_ne];omega
      have HNe:=qH h4
      clear h4
      have r8:=K5.out.2
      go_wp2_with (first | ((with_reducible refine wpList_store_row rfl 46 _ _ rfl (w.heap.size) #[.string ⟨#[]⟩,.string ⟨#[]⟩] ?_ ?_ 46 _ r8 2 ?_ ?_ ?_ ?_ ?_);(next=>rfl);(next=>rfl);(next=>kernel_rfl);(next=>rfl);(next=>rfl);(next=>rfl)) | fail)
      exact bodyPost_ret (v:=.tuple #[.agg #[.string ⟨#[]⟩,.string ⟨#[]⟩],.int .i64 2]) (qbS rfl _ _ (w.heap.size) 46 _ _ rfl (setRow_heap _ _ _ _ _ _ r8) Tryz.underlying46 rfl 2 (by kernel_rfl) rfl _ rfl) rfl (HB2.out _ (below_setRow K5.out.1 qN _) fun h=>HNe.out (by have:=HL.out.2.2.2.1;have:=h.2.2.1;have:=HN.out;omega))
     subst h4
     have hb4:((n4:Int) != (n4:Int))=false:=by simp
     go_wp2_with fail
     refine (HWt.out HA3.out _ K5.out.1).mono ?_
     rintro e w6 ⟨r6,rfl,hr6,hb⟩
     have K6:=K5.below hb
     have HY6:=qH (qA hr6 hb.size)
     clear hr6 hb K5 d0
     cases r6 with
     | false =>
      have r8:=K6.out.2
      go_wp2_with (first | ((with_reducible refine wpList_store_row rfl 46 _ _ rfl (w.heap.size) #[.string ⟨#[]⟩,.string ⟨#[]⟩] ?_ ?_ 46 _ r8 2 ?_ ?_ ?_ ?_ ?_);(next=>rfl);(next=>rfl);(next=>kernel_rfl);(next=>rfl);(next=>rfl);(next=>rfl)) | fail)
      exact bodyPost_ret (v:=.tuple #[.agg #[.string ⟨#[]⟩,.string ⟨#[]⟩],.int .i64 2]) (qbS rfl _ _ (w.heap.size) 46 _ _ rfl (setRow_heap _ _ _ _ _ _ r8) Tryz.underlying46 rfl 2 (by kernel_rfl) rfl _ rfl) rfl (HB2.out _ (below_setRow K6.out.1 qN _) fun h=>absurd (HY6.out.1.2 ⟨by have:=HL.out.1;have:=HL.out.2.2.1;have:=h.2.1;omega,h.2.2.2⟩) (by decide))
     | true =>
      obtain⟨h3,hneg⟩:=HY6.out.1.1 (by first | exact rfl | trivial)
      subst h3
      have HNg:=qH hneg
      clear hneg
      go_wp2_with fail
      refine (qfo 0 1 (by decide) (by decide) (by decide) _).mono ?_
      rintro e w7 ⟨v,rfl,hb,hv⟩
      obtain⟨uq,rfl⟩:=hv.qv
      have K7:=K6.below hb
      obtain⟨g10,hg10⟩:∃g,g=w7.heap.size:=⟨_,rfl⟩
      obtain⟨W8,hW8⟩:∃W8,W8=w7.alloc (.cells #[.bool uq.1,.slice uq.2.1.1 uq.2.1.2.1 uq.2.1.2.2,.bool false,.slice uq.2.2.1 uq.2.2.2.1 uq.2.2.2.2] 123):=⟨_,rfl⟩
      have hlt:w.heap.size<g10:=by have:=(qG K7.out.2).1;omega
      have K8:Kn (fun W=>(Below w.heap.size w W∧W.heap[w.heap.size]? = some (.cells #[.string ⟨#[]⟩,.string ⟨#[]⟩] 46 (0,0)))∧QBlk W g10 (sumQ 0 fun i=>lval u i*(resQ t l x n4 i*resQ t l x n4 i))) W8:=by
       have hz:qbK w7 (qagg uq) 0:=hv
       rw [hW8,hg10]
       exact K7.on (q:=fun W=>QBlk W w7.heap.size (sumQ 0 fun i=>lval u i*(resQ t l x n4 i*resQ t l x n4 i))) (qbI qB qN) (QBlk.new hz)
      clear hb hv K7 K6
      go_wp2_with (first | ((with_reducible refine qb1 rfl 123 _ _ rfl #[.bool false,.slice none 0 0,.bool false,.slice none 0 0] #[.bool uq.1,.slice uq.2.1.1 uq.2.1.2.1 uq.2.1.2.2,.bool false,.slice uq.2.2.1 uq.2.2.2.1 uq.2.2.2.2] ?_ ?_ 4 ?_ ?_ ?_ ?_ ?_);(next=>rfl);(next=>rfl);(next=>kernel_rfl);(next=>rfl);(next=>rfl);(next=>rfl)) | fail)
      rw [←hg10,←hW8]
      clear hW8 hg10
      go_loopw [11,12] (fun x11 _ W=>∃i:Nat,x11=.int .i64 i∧i≤n3∧Kn (fun W=>(Below w.heap.size w W∧W.heap[w.heap.size]? = some (.cells #[.string ⟨#[]⟩,.string ⟨#[]⟩] 46 (0,0)))∧QBlk W g10 (sumQ i fun i=>lval u i*(resQ t l x n4 i*resQ t l x n4 i))) W) (fun x11 _ _=>n3-(intOf x11).toNat)
      case atStart=>exact⟨0,rfl,qam _,K8⟩
      case round =>
       obtain⟨i,rfl,hi,KA⟩:=hrel
       have hRb:n3≤40:=by have:=HT.out.r2;have:=HL.out.1;omega
       have hnb:n4≤10:=by have:=HT.out.c2;have:=HN.out;omega
       have fitd:∀r,r<n3→RFit (resQ t l x n4 r) 3162:=fun r hr=>by
        have h1:RFit (sumQ n4 fun j=>tval t r j*lval x j) (n4*(150+150+1)+1):=qfR fun j hj=>(qeH HT.out (by have:=HL.out.1;omega) (by rw [HN.out];exact hj)).mulR (qda HA4.out (by have:=HL.out.2.2.2.1;omega))
        exact (h1.subR (qda HA2.out (by have:=HL.out.2.1;omega))).mono (by omega)
       have fits:∀k,k≤n3→RFit (sumQ k fun i=>lval u i*(resQ t l x n4 i*resQ t l x n4 i)) (k*(150+(3162+3162)+1)+1):=fun k hk=>qfR fun r hr=>(qda HA3.out (by have:=HL.out.2.2.1;omega)).mulR ((fitd r (by omega)).mulR (fitd r (by omega)))
       have HFt:=qH (qA fitd fits)
       clear fitd fits
       by_cases hlt2:i<n3
       ·have hii:(i:Int)<n3:=by omega
        have hT1:=HL.out.2.2.2.2.1.below KA.out.1.1
        obtain⟨ra,rb,ro,rc,e0,hrow⟩:=hT1.row i (by have:=HL.out.1;omega)
        have hlen:(t.getD i []).length=n4:=by rw [(HT.out.rows i (by have:=HL.out.1;omega)).1,HN.out]
        rw [hlen] at e0
        have hl2:=HL.out.2.2.2.2.2.1.below KA.out.1.1
        have ha2:=hl2.addr (by have:=HL.out.2.1;omega)
        subst ha2
        obtain⟨f0,f1⟩:=hl2.cell i (by have:=HL.out.2.1;omega)
        obtain⟨N,hN⟩:∃N,(l.getD i fd0).1=N:=⟨_,rfl⟩
        obtain⟨D,hD⟩:∃D,(l.getD i fd0).2=D:=⟨_,rfl⟩
        have hok:=HA2.out i (by have:=HL.out.2.1;omega)
        have hval:lval l i=fval (l.getD i fd0).1.data.toList (l.getD i fd0).2.data.toList:=rfl
        rw [hN] at f0 hok hval
        rw [hD] at f1 hok hval
        have p0:∀W,Below wr.heap.size wr W→W.cell? ⟨b,off+i,none⟩=some (.slice ra n4 rc):=fun W h=>(h.cell (qac wr _ e0)).trans e0
        have p1:∀W,Below wr.heap.size wr W→W.cell? ⟨b2,off2+i*2,none⟩=some (.string N):=fun W h=>(h.cell (qac wr _ f0)).trans f0
        have p2:∀W,Below wr.heap.size wr W→W.cell? ⟨b2,off2+i*2+1,none⟩=some (.string D):=fun W h=>(h.cell (qac wr _ f1)).trans f1
        have HVr:=qH (fun (W:World) (hb:Below wr.heap.size wr W)=>qdx ra rb ro n4 rc (t.getD i []) W hlen (by omega) (HT.out.rows i (by have:=HL.out.1;omega)).2 (hrow.below hb))
        have HIn:=qH (fun (W:World)=>hval▸qhO N D hok W)
        have HD:=qH (fun (W:World) (ga gx ca cx:Nat) (h1:QRow W ga n4 (tval t i)) (h2:QRow W gx n4 (lval x))=>dot_any ga gx n4 ca cx 150 150 (tval t i) (lval x) W (by omega) (by omega) h1 h2 (fun j hj=>qeH HT.out (by have:=HL.out.1;omega) (by rw [HN.out];exact hj)) (fun j hj=>qda HA4.out (by have:=HL.out.2.2.2.1;omega)))
        have HMi:=qH (fun (W:World) (z y:Value) (hz:qbK W z (sumQ n4 fun j=>tval t i j*lval x j)) (hy:qbK W y (lval l i))=>qhk (sumQ n4 fun j=>tval t i j*lval x j) (lval l i) (n4*(150+150+1)+1) 150 (by omega) z y W hz hy (qfR fun j hj=>(qeH HT.out (by have:=HL.out.1;omega) (by rw [HN.out];exact hj)).mulR (qda HA4.out (by have:=HL.out.2.2.2.1;omega))) (qda HA2.out (by have:=HL.out.2.1;omega)))
        have hn40:0<n4:=by have:=HT.out.c1;have:=HN.out;omega
        clear hT1 hrow hlen hl2 hN hD hok hval e0 f0 f1
        go_wp2_with fail
        refine wp_region_held_drew (S:=fun W=>Below wr.heap.size wr W) (by kernel_rfl) qB.drew (fun hS0=>?_)
        refine hT 0 (h:=hT 1 (h:=hT 2 (h:=hT 3 (h:=hT 5 (h:=hT 8 (h:=hT 9 (h:=hT 10 (h:=hT 11 (h:=?_)))))))))
        refine gr [(4,63),(6,65),(7,66),(12,71),(13,72),(14,12)] [(7,[4,6]),(13,[7,12])] [0,1,2,3,5,8,9,10,11] [4,6,7,12,13,14] [] 15 16
         (fl2 [(4,fun z W=>∃B,QList W B z n4 (tval t i)),(6,fun z W=>∃B,QList W B z n4 (lval x)),(7,fun z W=>qbK W z (sumQ n4 fun j=>tval t i j*lval x j)),(12,fun z W=>qbK W z (lval l i)),(13,fun z W=>qbK W z (resQ t l x n4 i)),(14,ZC wr.heap.size #[.bool false,.slice none 0 0,.bool false,.slice none 0 0] 123)]) _ 1
         (hS:=fun w' h=>qbU h) (hstep:=⟨⟨_,rfl,fun v w3 hb hF K hK=>?_⟩,⟨_,rfl,fun v w3 hb hF K hK=>?_⟩,⟨_,rfl,fun v w3 hb hF K hK=>?_⟩,⟨_,rfl,fun v w3 hb hF K hK=>?_⟩,⟨_,rfl,fun v w3 hb hF K hK=>?_⟩,⟨_,rfl,fun v w3 hb hF K hK=>?_⟩,trivial⟩) (hend:=fun v w3 hb hF _ fu=>?_)
        ·exact gC hK (HVr.out w3 (qbU hb)) (h:=fun e w4 ⟨z,e1,h1,h2⟩=>⟨z,e1,⟨_,h1⟩,h2⟩)
        ·exact gC hK (HV4.out HA4.out w3 (KA.out.1.1.trans ((qbU hb).mono KA.out.1.1.size))) (h:=fun e w4 ⟨z,e1,h1,h2⟩=>⟨z,e1,⟨_,h1⟩,h2⟩)
        ·obtain⟨B1,i4⟩:∃B,QList w3 B (v 4) n4 (tval t i):=hF.1
         obtain⟨B2,i6⟩:∃B,QList w3 B (v 6) n4 (lval x):=hF.2.1
         obtain⟨ga,ca,e4,_,_,h4⟩:=i4.row hn40
         obtain⟨gx,cx,e6,_,_,h6⟩:=i6.row hn40
         exact gC hK (HD.out w3 ga gx ca cx h4 h6) (h:=fun e w4 ⟨z,e1,h1,h2⟩=>⟨z,e1,h2,h1⟩)
        ·exact gC hK (HIn.out w3) (h:=fun e w4 ⟨z,e1,h1,h2⟩=>⟨z,e1,h2,h1⟩)
        ·have i7:qbK w3 (v 7) _:=hF.1
         have i12:qbK w3 (v 12) _:=hF.2.1
         exact gC hK (HMi.out w3 _ _ i7 i12) (h:=fun e w4 ⟨z,e1,h1,h2,_⟩=>⟨z,e1,h2,h1⟩)
        ·exact gW hK (h:=ZC.new (qbU hb).size)
        have i13:qbK w3 (v 13) (resQ t l x n4 i):=hF 13 (by decide) (by decide)
        obtain⟨g12,hg12,e14,hge⟩:∃g12,_:=hF 14 (by decide) (by decide)
        obtain⟨ux,e13⟩:=i13.qv
        rw [e13] at i13
        rw [e13,e14]
        have hge:wr.heap.size≤g12:=hge
        refine hSt 15 4 hg12 (h:=⟨below_setRow (qbU hb) hge _,?_⟩)
        have hbz:=below_setRow (qbU hb) hge #[.bool ux.1,.slice ux.2.1.1 ux.2.1.2.1 ux.2.1.2.2,.bool false,.slice ux.2.2.1 ux.2.2.2.1 ux.2.2.2.2]
        have hq12:QBlk (w3.setRow g12 #[.bool ux.1,.slice ux.2.1.1 ux.2.1.2.1 ux.2.1.2.2,.bool false,.slice ux.2.2.1 ux.2.2.2.1 ux.2.2.2.2]) g12 (resQ t l x n4 i):=⟨ux,setRow_heap _ _ _ _ _ _ hg12,qco i13 hg12 (nd4 _ _ _ _ _ _ _ _)⟩
        have hg10l:g10<wr.heap.size:=by obtain⟨_,h1,_⟩:=KA.out.2;exact (qG h1).1
        have KB:=(KA.below hbz).also (q:=fun W=>QBlk W g12 (resQ t l x n4 i)) hq12
        obtain⟨W9,hW9⟩:∃W9,W9=w3.setRow g12 #[.bool ux.1,.slice ux.2.1.1 ux.2.1.2.1 ux.2.1.2.2,.bool false,.slice ux.2.2.1 ux.2.2.2.1 ux.2.2.2.2]:=⟨_,rfl⟩
        rw [←hW9] at KB ⊢
        clear hW9 hb hF e13 e14 i13 hq12 hbz hg12 hS0 p0 p1 p2 HVr HIn HD HMi hn40 KA
        obtain⟨us,r10,hs10⟩:=KB.out.1.2
        obtain⟨ud,r12,hs12⟩:=KB.out.2
        have hl3:=HL.out.2.2.2.2.2.2.below KB.out.1.1.1
        have ha3:=hl3.addr (by have:=HL.out.2.2.1;omega)
        subst ha3
        obtain⟨f0,f1⟩:=hl3.cell i (by have:=HL.out.2.2.1;omega)
        have hb3:b3<w.heap.size:=qac w _ (HL.out.2.2.2.2.2.2.cell i (by have:=HL.out.2.2.1;omega)).1
        obtain⟨N,hN⟩:∃N,(u.getD i fd0).1=N:=⟨_,rfl⟩
        obtain⟨D,hD⟩:∃D,(u.getD i fd0).2=D:=⟨_,rfl⟩
        have hok:=HA3.out i (by have:=HL.out.2.2.1;omega)
        have hval:lval u i=fval (u.getD i fd0).1.data.toList (u.getD i fd0).2.data.toList:=rfl
        rw [hN] at f0 hok hval
        rw [hD] at f1 hok hval
        have ne3:some b3≠some g10:=fun e=>by have:=qah e;omega
        have ne12:some g12≠some g10:=fun e=>by have:=qah e;omega
        have p0:∀W,W9.grownBy W (some g10)→W.cell? ⟨b3,off3+i*2,none⟩=some (.string N):=fun W h=>h.cell f0 ne3
        have p1:∀W,W9.grownBy W (some g10)→W.cell? ⟨b3,off3+i*2+1,none⟩=some (.string D):=fun W h=>h.cell f1 ne3
        have q0:∀W,W9.grownBy W (some g10)→W.cell? ⟨g12,0,none⟩=some (.bool ud.1):=fun W h=>h.cell (cell_of_row _ _ 0 _ _ _ r12) ne12
        have q1:∀W,W9.grownBy W (some g10)→W.cell? ⟨g12,1,none⟩=some (.slice ud.2.1.1 ud.2.1.2.1 ud.2.1.2.2):=fun W h=>h.cell (cell_of_row _ _ 1 _ _ _ r12) ne12
        have q2:∀W,W9.grownBy W (some g10)→W.cell? ⟨g12,2,none⟩=some (.bool false):=fun W h=>h.cell (cell_of_row _ _ 2 _ _ _ r12) ne12
        have q3:∀W,W9.grownBy W (some g10)→W.cell? ⟨g12,3,none⟩=some (.slice ud.2.2.1 ud.2.2.2.1 ud.2.2.2.2):=fun W h=>h.cell (cell_of_row _ _ 3 _ _ _ r12) ne12
        have fd:=HFt.out.1 i hlt2
        have fu':=qda HA3.out (k:=i) (by have:=HL.out.2.2.1;omega)
        have HIn:=qH (fun (W:World)=>hval▸qhO N D hok W)
        have HT1:=qH (fun (W:World) (h:Below W9.heap.size W9 W)=>qdv (resQ t l x n4 i) (resQ t l x n4 i) 3162 3162 (by decide) (qagg ud) (qagg ud) W (hs12.below h) (hs12.below h) fd fd)
        have HT2:=qH (fun (W:World) (y z:Value) (hy:qbK W y (lval u i)) (hz:qbK W z (resQ t l x n4 i*resQ t l x n4 i))=>qdv (lval u i) (resQ t l x n4 i*resQ t l x n4 i) 150 (3162+3162) (by decide) y z W hy hz fu' (fd.mulR fd))
        have HPl:=qH (fun (W:World) (z:Value) (h:Below W9.heap.size W9 W) (hz:qbK W z (lval u i*(resQ t l x n4 i*resQ t l x n4 i)))=>qfr (sumQ i fun i=>lval u i*(resQ t l x n4 i*resQ t l x n4 i)) (lval u i*(resQ t l x n4 i*resQ t l x n4 i)) _ (150+(3162+3162)) (by omega) (qagg us) z W (hs10.below h) hz (HFt.out.2 i hi) (fu'.mulR (fd.mulR fd)))
        clear hl3 f0 f1 hN hD hok hval ne3 ne12 fd fu' hs10 hs12 r12 hb3
        go_wp2_with fail
        refine wp_region_held_drew (S:=fun W=>W9.grownBy W (some g10)) (by kernel_rfl) (qbR (qb3 _ _) qB.drew) (fun hS0=>?_)
        refine hT 1 (h:=hT 2 (h:=hT 3 (h:=hT 4 (h:=hT 6 (h:=hT 7 (h:=?_))))))
        refine gr [(0,73),(5,78),(8,81),(9,82),(10,83)] [(9,[5,8]),(10,[0,9])] [1,2,3,4,6,7] [0,5,8,9,10] [] 11 12
         (fl2 [(0,fun z _=>z=qagg us),(5,fun z W=>qbK W z (lval u i)),(8,fun z W=>qbK W z (resQ t l x n4 i*resQ t l x n4 i)),(9,fun z W=>qbK W z (lval u i*(resQ t l x n4 i*resQ t l x n4 i))),(10,fun z W=>qbK W z (sumQ (i+1) fun i=>lval u i*(resQ t l x n4 i*resQ t l x n4 i)))]) _ 1
         (hS:=fun w' h=>qbR hS0 h) (hstep:=⟨⟨_,rfl,fun v w3 hb hF K hK=>?_⟩,⟨_,rfl,fun v w3 hb hF K hK=>?_⟩,⟨_,rfl,fun v w3 hb hF K hK=>?_⟩,⟨_,rfl,fun v w3 hb hF K hK=>?_⟩,⟨_,rfl,fun v w3 hb hF K hK=>?_⟩,trivial⟩) (hend:=fun v w3 hb hF _ fu=>?_)
        ·have hr:=(((qbU hb).block g10 (qG r10).1).trans r10)
         have k0:=cell_of_row _ _ 0 _ _ _ hr
         have k1:=cell_of_row _ _ 1 _ _ _ hr
         have k2:=cell_of_row _ _ 2 _ _ _ hr
         have k3:=cell_of_row _ _ 3 _ _ _ hr
         exact gV hK rfl
        ·exact gC hK (HIn.out w3) (h:=fun e w4 ⟨z,e1,h1,h2⟩=>⟨z,e1,h2,h1⟩)
        ·exact gC hK (HT1.out w3 (qbU hb)) (h:=fun e w4 ⟨z,e1,h1,h2,_⟩=>⟨z,e1,h2,h1⟩)
        ·have i5:qbK w3 (v 5) _:=hF.1
         have i8:qbK w3 (v 8) _:=hF.2.1
         exact gC hK (HT2.out w3 _ _ i5 i8) (h:=fun e w4 ⟨z,e1,h1,h2,_⟩=>⟨z,e1,h2,h1⟩)
        ·have e0:v 0=_:=hF.1
         have i9:qbK w3 (v 9) _:=hF.2.1
         exact gC hK (HPl.out w3 _ (qbU hb) i9) (h:=fun e w4 ⟨z,e1,h1,h2,_⟩=>⟨z,e1,h2,h1⟩)
        have i10:qbK w3 (v 10) (sumQ (i+1) fun i=>lval u i*(resQ t l x n4 i*resQ t l x n4 i)):=hF 10 (by decide) (by decide)
        obtain⟨ut,e10⟩:=i10.qv
        rw [e10] at i10
        have KC:=KB.below (qbU hb)
        obtain⟨_,hr6,_⟩:=KC.out.1.2
        rw [e10]
        refine hSt 11 4 hr6 (h:=⟨qbL (qbR hS0 hb) (qb9 _ _ _),?_⟩)
        have KD:Kn (fun W=>(Below w.heap.size w W∧W.heap[w.heap.size]? = some (.cells #[.string ⟨#[]⟩,.string ⟨#[]⟩] 46 (0,0)))∧QBlk W g10 (sumQ (i+1) fun i=>lval u i*(resQ t l x n4 i*resQ t l x n4 i))) (w3.setRow g10 #[.bool ut.1,.slice ut.2.1.1 ut.2.1.2.1 ut.2.1.2.2,.bool false,.slice ut.2.2.1 ut.2.2.2.1 ut.2.2.2.2]) :=
         .of ⟨⟨below_setRow KC.out.1.1.1 (by omega) _,(setRow_other _ _ _ _ (by omega)).trans KC.out.1.1.2⟩,KC.out.1.2.put i10⟩
        obtain⟨Wd,hWd⟩:∃W7,W7=w3.setRow g10 #[.bool ut.1,.slice ut.2.1.1 ut.2.1.2.1 ut.2.1.2.2,.bool false,.slice ut.2.2.1 ut.2.2.2.1 ut.2.2.2.2]:=⟨_,rfl⟩
        rw [←hWd] at KD ⊢
        clear hWd hb hF e10 i10 KC hr6 hS0 p0 p1 q0 q1 q2 q3 r10 HIn HT1 HT2 HPl KB
        go_wp2_with fail
        go_roundw
        case rel=>exact⟨i+1,by go_num,hlt2,KD⟩
        case measure=>simp [intOf];omega
       ·obtain rfl:i=n3:=by omega
        obtain⟨us,r10,hs10⟩:=KA.out.2
        have hq:=HFt.out.2 i qN
        have HO:=qH (qgl (sumQ i fun i=>lval u i*(resQ t l x n4 i*resQ t l x n4 i)) (i*(150+(3162+3162)+1)+1) (Nat.succ_pos _) (by omega) (qagg us) wr hs10 hq.1 hq.2)
        clear hq hs10
        go_wp2_with (first | ((with_reducible refine qbJ rfl 123 _ rfl (g10) ?_ 123 #[.bool us.1,.slice us.2.1.1 us.2.1.2.1 us.2.1.2.2,.bool false,.slice us.2.2.1 us.2.2.2.1 us.2.2.2.2] _ r10 Tryz.underlying123 ?_ 4 ?_ ?_ ?_);(next=>rfl);(next=>rfl);(next=>kernel_rfl);(next=>rfl)) | fail)
        refine HO.out.mono ?_
        intro e w2 h2
        obtain⟨x1,x2,cc,rfl,hx,hb⟩:=qcv h2
        have KB:=KA.below hb
        have HZ:=qH hx
        have r8:=KB.out.1.2
        clear hx hb h2 HO KA r10
        have hem:measQ t l u x (wid t) t.length=sumQ i fun i=>lval u i*(resQ t l x n4 i*resQ t l x n4 i):=by rw [HN.out,HL.out.1];rfl
        have HE:=qH hem
        clear hem
        have hfin:∀e,(Short (measQ t l u x (wid t) t.length)∧e=.returned (.tuple #[fstr (measQ t l u x (wid t) t.length),.int .i64 0])∨¬Short (measQ t l u x (wid t) t.length)∧e=.returned (.tuple #[.agg #[.string ⟨#[]⟩,.string ⟨#[]⟩],.int .i64 6]))→∀W,Below w.heap.size w W→qek w t l u x e W:=fun e h W hb =>
         ⟨qaq (qaq (qaq ⟨HT.out,HA2.out,HA3.out,HA4.out,by have:=HL.out.1;have:=HL.out.2.1;omega,by have:=HL.out.1;have:=HL.out.2.2.1;omega,by have:=HN.out;have:=HL.out.2.2.2.1;omega,HNg.out,h⟩)),hb⟩
        have HFin:=qH hfin
        clear hfin
        go_wp2_with (first | ((with_reducible refine wpList_store_row rfl 46 _ _ rfl (w.heap.size) #[.string x1,.string x2] ?_ ?_ 46 _ r8 2 ?_ ?_ ?_ ?_ ?_);(next=>rfl);(next=>rfl);(next=>kernel_rfl);(next=>rfl);(next=>rfl);(next=>rfl)) | fail)
        refine bodyPost_ret (v:=.tuple #[.agg #[.string x1,.string x2],.int .i64 cc]) (qbS rfl _ _ (w.heap.size) 46 _ _ rfl (setRow_heap _ _ _ _ _ _ r8) Tryz.underlying46 rfl 2 (by kernel_rfl) rfl _ rfl) rfl (HFin.out _ ?_ _ (below_setRow KB.out.1.1 qN _))
        rw [HE.out]
        rcases HZ.out with ⟨hs,e1,rfl⟩ | ⟨hs,e1,rfl⟩
        ·exact qau ⟨hs,by rw [show x1=(ftxt (sumQ i fun i=>lval u i*(resQ t l x n4 i*resQ t l x n4 i))).1 from congrArg Prod.fst e1,show x2=(ftxt (sumQ i fun i=>lval u i*(resQ t l x n4 i*resQ t l x n4 i))).2 from congrArg Prod.snd e1];rfl⟩
        ·exact qaq ⟨hs,by rw [show x1=fd0.1 from congrArg Prod.fst e1,show x2=fd0.2 from congrArg Prod.snd e1];rfl⟩
end Go.Proofs.YtfminfgabiipjaaGreatDoor.p4
namespace Go.Proofs.YtfminfgabiipjaaGreatDoor
open Go.RowKit
theorem qi0 {w w':World} {t:Tbl} {l u:List FT} {e:Ending} (h:qeQ w t l u e w'):∃(a:Option Addr) (n d:Nat) (c:Int),e=.returned (.tuple #[.slice a n d,.int .i64 c]):=by
 rcases h.1 with ⟨_,e⟩ | ⟨_,_,e⟩ | ⟨_,_,_,_,e⟩ | ⟨_,_,_,_,_,_,⟨_,e⟩ | ⟨_,x,_,⟨_,g,e,_⟩ | ⟨_,e⟩⟩⟩ <;> exact⟨_,_,_,_,e⟩
theorem qlv {w1 w1' w2 w2':World} {t:Tbl} {l u:List FT} {e1 e2:Ending} (h1:qeQ w1 t l u e1 w1') (h2:p4.qht w2 t l u e2 w2'):qhu w1' w2' e1 e2:=by
 rcases h1.1 with ⟨a1,rfl⟩ | ⟨a1,b1,rfl⟩ | ⟨a1,b1,c1,d1,rfl⟩ | ⟨a1,b1,c1,d1,f1,g1,h1⟩ <;> rcases h2.1 with ⟨a2,rfl⟩ | ⟨a2,b2,rfl⟩ | ⟨a2,b2,c2,d2,rfl⟩ | ⟨a2,b2,c2,d2,f2,g2,h2⟩ <;>
  first
   | exact absurd a1 a2
   | exact absurd a2 a1
   | exact absurd (qA b2 c2) b1
   | exact absurd (qA b1 c1) b2
   | exact absurd (qA d2 (qA f2 g2)) d1
   | exact absurd (qA d1 (qA f1 g1)) d2
   | exact qfh _ _ _
   | skip
 rcases h1 with ⟨s1,rfl⟩ | ⟨s1,x,hx,t1⟩ <;> rcases h2 with ⟨s2,rfl⟩ | ⟨s2,y,hy,t2⟩
 ·exact qfh _ _ _
 ·exact absurd s1 s2
 ·exact absurd s2 s1
 ·exact qiI (by have:=a1.c2;omega) (qcq.uniq s1 hx hy) t1 t2
theorem qkj {w w':World} {t:Tbl} {l u x:List FT} {e:Ending} (h:qek w t l u x e w'):∃(x1 x2:ByteArray) (c:Int),e=.returned (.tuple #[.agg #[.string x1,.string x2],.int .i64 c]):=by
 rcases h.1 with ⟨_,e⟩ | ⟨_,_,e⟩ | ⟨_,_,_,_,_,e⟩ | ⟨_,_,_,_,_,_,_,_,⟨_,e⟩ | ⟨_,e⟩⟩ <;> exact⟨_,_,_,e⟩
theorem meas_two {w1 w1' w2 w2':World} {t:Tbl} {l u x:List FT} {e1 e2:Ending} (h1:qek w1 t l u x e1 w1') (h2:qek w2 t l u x e2 w2'):e2=e1:=by
 rcases h1.1 with ⟨a1,rfl⟩ | ⟨a1,b1,rfl⟩ | ⟨a1,b1,c1,d1,f1,rfl⟩ | ⟨a1,b1,c1,d1,f1,g1,i1,j1,h1⟩ <;> rcases h2.1 with ⟨a2,rfl⟩ | ⟨a2,b2,rfl⟩ | ⟨a2,b2,c2,d2,f2,rfl⟩ | ⟨a2,b2,c2,d2,f2,g2,i2,j2,h2⟩ <;>
  first
   | exact absurd a1 a2
   | exact absurd a2 a1
   | exact absurd (qA b2 (qA c2 d2)) b1
   | exact absurd (qA b1 (qA c1 d1)) b2
   | exact absurd (qA f2 (qA g2 (qA i2 j2))) f1
   | exact absurd (qA f1 (qA g1 (qA i1 j1))) f2
   | rfl
   | skip
 rcases h1 with ⟨s1,rfl⟩ | ⟨s1,rfl⟩ <;> rcases h2 with ⟨s2,rfl⟩ | ⟨s2,rfl⟩
 ·rfl
 ·exact absurd s1 s2
 ·exact absurd s2 s1
 ·rfl
theorem RawAt.four {W:World} {p0 p1 p2 p3:Option Addr} {m0 m1 m2 m3 k0 k1 k2 k3:Nat} {t:Tbl} {l u x:List FT} (h:RawAt W (.agg #[.slice p0 m0 k0,.slice p1 m1 k1,.slice p2 m2 k2,.slice p3 m3 k3]) t l u x) :
  ∃(b off b1 o1 b2 o2 b3 o3:Nat),TabAt W p0 b off t∧FCells W p1 b1 o1 l∧FCells W p2 b2 o2 u∧FCells W p3 b3 o3 x:=by
 obtain⟨b,off,b1,o1,b2,o2,b3,o3,hT,h1,h2,h3,_⟩:=h.parts
 exact⟨b,off,b1,o1,b2,o2,b3,o3,hT,h1,h2,h3⟩
theorem qld (hworks:∀W:World,HasT W→Calls Tryz.prog 10 #[] W fun e w'=>e=.returned (.bool true)∧Below W.heap.size W w')
  (v:Value) (t:Tbl) (l u x:List FT) (r c:Nat) (N:List Int) (D:List Nat) (vd:Value) (w:World) (hv:RawAt w v t l u x) (hd:qc2 w vd r c N D) (hP:HasT w) :
  Calls Tryz.prog 4 #[v,vd] w fun e w'=>e=.returned (.bool true)∧Below w.heap.size w w':=by
 have HW:=qH hworks
 have HA:=qH (fun (W:World) (h:Below w.heap.size w W)=>qkK v vd t l u x r c N D W (hv.below h) (hd.below h))
 have HP:=qH hP
 obtain⟨a,b,off,nn,cc,a',b',off',n',cc',rfl,_⟩:=hd
 obtain⟨y0,y1,y2,y3,rfl⟩:∃y0 y1 y2 y3,v=.agg #[y0,y1,y2,y3]:=by
  obtain⟨_,_,_,_,_,_,_,_,_,_,_,_,_,_,_,_,e,_⟩:=hv
  exact⟨_,_,_,_,e⟩
 clear hv hworks hP
 obtain⟨W1,hW1,K1⟩:=p4.kn2 w #[y0,y1,y2,y3] 25 #[.int .u8 (r:Int),.int .u8 (c:Int),.slice a nn cc,.slice a' n' cc'] 29
 go_enter Tryz.func4,Tryz.ntmps4
 go_wp2_with fail
 rw [←hW1]
 clear hW1
 refine (HW.out W1 (HP.out.below K1.out.1)).mono ?_
 rintro e w2 ⟨rfl,hb⟩
 have K2:=K1.below hb
 have r0:=K2.out.2.1
 have r1:=K2.out.2.2
 clear hb
 go_wp2_with (first | ((with_reducible refine qbJ rfl 25 _ rfl (w.heap.size) ?_ 25 #[y0,y1,y2,y3] _ r0 Tryz.underlying25 ?_ 4 ?_ ?_ ?_);(next=>rfl);(next=>rfl);(next=>kernel_rfl);(next=>rfl)) | ((with_reducible refine qbJ rfl 29 _ rfl (w.heap.size+1) ?_ 29 #[.int .u8 (r:Int),.int .u8 (c:Int),.slice a nn cc,.slice a' n' cc'] _ r1 Tryz.underlying29 ?_ 4 ?_ ?_ ?_);(next=>rfl);(next=>rfl);(next=>kernel_rfl);(next=>rfl)) | fail)
 refine (HA.out _ K2.out.1).mono ?_
 rintro e w3 ⟨g,rfl,hraw,hb⟩
 have H3:=qH (qA (K2.out.1.trans (hb.mono K2.out.1.size)) hraw)
 clear hb hraw r0 r1 K2 K1
 go_wp2_with fail
 go_loopw [5,6,7,8,9,10,11,12,13,14,21] (fun _ _ _ _ _ _ _ _ _ _ x21 W=>∃k:Nat,x21=.int .i64 k∧k≤4∧Hid (Below w3.heap.size w3 W)) (fun _ _ _ _ _ _ _ _ _ _ x21 _=>4-(intOf x21).toNat)
 case atStart=>exact⟨0,rfl,qam _,qH qB⟩
 case round =>
  obtain⟨k,rfl,hk,hB⟩:=hrel
  by_cases hk4:k<4
  ·have hki:(k:Int)<4:=by omega
   obtain⟨z0,z1,z2,z3,d0,d1,d2,d3,t,l,u,x,hraw,hcut⟩:=H3.out.2 k hk4
   obtain⟨p0,m0,k0,p1,m1,k1,p2,m2,k2,p3,m3,k3,e⟩:=hraw.slices
   simp only [qaQ,qaP,qaI,and_true] at e
   obtain⟨rfl,rfl,rfl,rfl⟩:=e
   replace d0:=(hB.out.cell (qac w3 _ d0)).trans d0
   replace d1:=(hB.out.cell (qac w3 _ d1)).trans d1
   replace d2:=(hB.out.cell (qac w3 _ d2)).trans d2
   replace d3:=(hB.out.cell (qac w3 _ d3)).trans d3
   have HR:=qH (qA (hraw.below hB.out) hcut)
   have HRaw:=qH hraw
   clear hraw hcut
   go_upto_if 27 with (first | ((with_reducible refine qb1 rfl 25 _ _ rfl #[.slice none 0 0,.slice none 0 0,.slice none 0 0,.slice none 0 0] #[.slice p0 m0 k0,.slice p1 m1 k1,.slice p2 m2 k2,.slice p3 m3 k3] ?_ ?_ 4 ?_ ?_ ?_ ?_ ?_);(next=>rfl);(next=>rfl);(next=>kernel_rfl);(next=>rfl);(next=>rfl);(next=>rfl)) | fail)
   obtain⟨g6,hg6⟩:∃g,g=wr.heap.size:=⟨_,rfl⟩
   obtain⟨W5,hW5⟩:∃W5,W5=wr.alloc (.cells #[.slice p0 m0 k0,.slice p1 m1 k1,.slice p2 m2 k2,.slice p3 m3 k3] 25):=⟨_,rfl⟩
   have K5:Kn (fun W=>(Below w3.heap.size w3 W∧RawAt W (.agg #[.slice p0 m0 k0,.slice p1 m1 k1,.slice p2 m2 k2,.slice p3 m3 k3]) t l u x)∧W.heap[g6]? = some (.cells #[.slice p0 m0 k0,.slice p1 m1 k1,.slice p2 m2 k2,.slice p3 m3 k3] 25 (0,0))) W5:=by
    have hb5:Below wr.heap.size wr W5:=hW5▸qbI qB qN
    exact .of ⟨⟨hB.out.trans (hb5.mono hB.out.size),HR.out.1.below hb5⟩,by rw [hW5,hg6];exact heap_alloc_new wr _⟩
   have hg63:w3.heap.size≤g6:=by rw [hg6];exact hB.out.size
   rw [←hg6,←hW5]
   clear hW5 hg6 d0 d1 d2 d3
   have K7:=K5
   clear K5
   go_cut [] (fun W=>∃(p0:Option Addr) (m0 k0:Nat) (p1:Option Addr) (m1 k1:Nat) (p2:Option Addr) (m2 k2:Nat) (p3:Option Addr) (m3 k3:Nat) (t:Tbl) (l u x:List FT),Hid (Cut t l u x)∧Kn (fun W=>(Below w3.heap.size w3 W∧RawAt W (.agg #[.slice p0 m0 k0,.slice p1 m1 k1,.slice p2 m2 k2,.slice p3 m3 k3]) t l u x)∧W.heap[g6]? = some (.cells #[.slice p0 m0 k0,.slice p1 m1 k1,.slice p2 m2 k2,.slice p3 m3 k3] 25 (0,0))) W)
   case first =>
    by_cases hk0:k=0
    ·subst hk0
     have r6:=K7.out.2
     go_wp2_with (first | ((with_reducible refine qbJ rfl 25 _ rfl (g6) ?_ 25 #[.slice p0 m0 k0,.slice p1 m1 k1,.slice p2 m2 k2,.slice p3 m3 k3] _ r6 Tryz.underlying25 ?_ 4 ?_ ?_ ?_);(next=>rfl);(next=>rfl);(next=>kernel_rfl);(next=>rfl)) | fail)
     refine (qla _ t l u x _ K7.out.1.2 HR.out.2).mono ?_
     rintro e w8 ⟨r8,t8,l8,u8,x8,rfl,hraw,hcut,hb8,hor⟩
     obtain⟨s0,n0,j0,s1,n1,j1,s2,n2,j2,s3,n3,j3,rfl⟩:=hraw.slices
     have K8:=(K7.below hb8).also (q:=fun W=>RawAt W (.agg #[.slice s0 n0 j0,.slice s1 n1 j1,.slice s2 n2 j2,.slice s3 n3 j3]) t8 l8 u8 x8) hraw
     have r8:=K8.out.1.2
     have HCt:=qH (qA hcut hor)
     clear hraw hcut hb8 r6 hor
     go_wp2_with (first | ((with_reducible refine wpList_store_row rfl 25 _ _ rfl (g6) #[.slice s0 n0 j0,.slice s1 n1 j1,.slice s2 n2 j2,.slice s3 n3 j3] ?_ ?_ 25 _ r8 4 ?_ ?_ ?_ ?_ ?_);(next=>rfl);(next=>rfl);(next=>kernel_rfl);(next=>rfl);(next=>rfl);(next=>rfl)) | fail)
     go_meet
     have hbs:Below w3.heap.size w3 (w8.setRow g6 #[.slice s0 n0 j0,.slice s1 n1 j1,.slice s2 n2 j2,.slice s3 n3 j3]):=below_setRow K8.out.1.1.1 hg63 _
     have hfin:RawAt (w8.setRow g6 #[.slice s0 n0 j0,.slice s1 n1 j1,.slice s2 n2 j2,.slice s3 n3 j3]) (.agg #[.slice s0 n0 j0,.slice s1 n1 j1,.slice s2 n2 j2,.slice s3 n3 j3]) t8 l8 u8 x8:=by
      rcases HCt.out.2 with ⟨e1,rfl,rfl,rfl,rfl⟩ | ⟨B,vs,z0,z1,z2,z3,e1,hrw⟩
      ·rw [e1];exact HRaw.out.below hbs
      ·simp only [qaQ,qaP,qaI,and_true] at e1
       obtain⟨rfl,rfl,rfl,rfl⟩:=e1
       exact K8.out.2.keepT hrw (qb9 _ _ _) r8 (fun y hy=>by
        simp at hy
        rcases hy with rfl | rfl | rfl | rfl <;> exact⟨_,_,_,rfl⟩)
     exact⟨s0,n0,j0,s1,n1,j1,s2,n2,j2,s3,n3,j3,t8,l8,u8,x8,qH HCt.out.1,.of ⟨⟨hbs,hfin⟩,setRow_heap _ _ _ _ _ _ r8⟩⟩
    ·have hk0i:((k:Int) == 0)=false:=by rw [beq_eq_false_iff_ne];omega
     go_wp2_with fail
     go_meet
     exact⟨p0,m0,k0,p1,m1,k1,p2,m2,k2,p3,m3,k3,t,l,u,x,qH HR.out.2,K7⟩
   case rest =>
    clear K7 HR HRaw
    obtain⟨p0,m0,k0,p1,m1,k1,p2,m2,k2,p3,m3,k3,t,l,u,x,HR,K7⟩:=hcut
    obtain⟨_,_,_,_,_,_,_,_,_,_,_,_,em,en,eu,ex⟩:=K7.out.1.2.parts
    have HM:=qH (qA em (qA en (qA eu (qA ex (qA (show m0≤42 by rw [←em];exact HR.out.t1) (qA (show m1≤42 by rw [←en];exact HR.out.b1) (qA (show m2≤42 by rw [←eu];exact HR.out.u1) (qA (show m3≤11 by rw [←ex];exact HR.out.x1) (fun i (hi:i<m0)=>(HR.out.t2 i (by omega)).1)))))))))
    clear em en eu ex
    have d0:=cell_of_row _ _ 0 _ _ _ K7.out.2
    have d1:=cell_of_row _ _ 1 _ _ _ K7.out.2
    have d2:=cell_of_row _ _ 2 _ _ _ K7.out.2
    go_wp2_with fail
    obtain⟨b,off,b1,o1,b2,o2,b3,o3,hT0,hF1,hF2,hF3⟩:=K7.out.1.2.four
    refine (qhc p0 b off m0 k0 t p1 b1 o1 m1 k1 l p2 b2 o2 m2 k2 u _ HM.out.1 (by have:=HM.out.2.2.2.2.1;omega) (fun i hi=>by have:=HM.out.2.2.2.2.2.2.2.2 i hi;omega) hT0.tc HM.out.2.1 (by have:=HM.out.2.2.2.2.2.1;omega) hF1 HM.out.2.2.1 (by have:=HM.out.2.2.2.2.2.2.1;omega) hF2 (HP.out.below (H3.out.1.trans (K7.out.1.1.mono H3.out.1.size)))).mono ?_
    rintro e w8 h8
    obtain⟨sa,sn,sc,se,rfl⟩:=qi0 h8
    have K8:=K7.below h8.2
    have H8:=qH h8
    clear h8 d0 d1 d2 K7 hT0 hF1 hF2 hF3
    have d0:=cell_of_row _ _ 0 _ _ _ K8.out.2
    have d1:=cell_of_row _ _ 1 _ _ _ K8.out.2
    have d2:=cell_of_row _ _ 2 _ _ _ K8.out.2
    go_wp2_with fail
    obtain⟨b,off,b1,o1,b2,o2,b3,o3,hT0,hF1,hF2,hF3⟩:=K8.out.1.2.four
    refine (p4.qku p0 b off m0 k0 t p1 b1 o1 m1 k1 l p2 b2 o2 m2 k2 u _ HM.out.1 (by have:=HM.out.2.2.2.2.1;omega) (fun i hi=>by have:=HM.out.2.2.2.2.2.2.2.2 i hi;omega) HR.out.small hT0.tc HM.out.2.1 (by have:=HM.out.2.2.2.2.2.1;omega) HR.out.b2.small hF1 HM.out.2.2.1 (by have:=HM.out.2.2.2.2.2.2.1;omega) HR.out.u2.small hF2).mono ?_
    rintro e w9 h9
    obtain⟨L,n,c,a1,g1,c1,a2,g2,c2,hL,hn,e1,f1,rfl,f2⟩:=qlv H8.out h9
    simp only [Ending.returned.injEq,Value.tuple.injEq,qaP,qaI,qbh,Value.int.injEq,true_and,and_true] at e1
    obtain⟨⟨rfl,rfl,rfl⟩,rfl⟩:=e1
    have K9:=K8.below h9.2
    have HS:=qH (fun (W:World) (h:Below w9.heap.size w9 W)=>qfs sa g1 0 sn sc L a2 g2 0 sn c2 L W hL (by omega) ((f1.below h9.2).below h) hL (by omega) (f2.below h))
    clear h9 d0 d1 d2 K8 hT0 hF1 hF2 hF3 H8 f1 f2 hL hn
    have d0:=cell_of_row _ _ 0 _ _ _ K9.out.2
    have d1:=cell_of_row _ _ 1 _ _ _ K9.out.2
    have d2:=cell_of_row _ _ 2 _ _ _ K9.out.2
    have d3:=cell_of_row _ _ 3 _ _ _ K9.out.2
    go_wp2_with fail
    obtain⟨b,off,b1,o1,b2,o2,b3,o3,hT0,hF1,hF2,hF3⟩:=K9.out.1.2.four
    refine (qep p0 b off m0 k0 t p1 b1 o1 m1 k1 l p2 b2 o2 m2 k2 u p3 b3 o3 m3 k3 x _ HM.out.1 (by have:=HM.out.2.2.2.2.1;omega) (fun i hi=>by have:=HM.out.2.2.2.2.2.2.2.2 i hi;omega) hT0.tc HM.out.2.1 (by have:=HM.out.2.2.2.2.2.1;omega) hF1 HM.out.2.2.1 (by have:=HM.out.2.2.2.2.2.2.1;omega) hF2 HM.out.2.2.2.1 (by have:=HM.out.2.2.2.2.2.2.2.1;omega) hF3 (HP.out.below (H3.out.1.trans (K9.out.1.1.mono H3.out.1.size)))).mono ?_
    rintro e w10 h10
    obtain⟨x1,x2,ce,rfl⟩:=qkj h10
    have H10:=qH h10
    obtain⟨g11,hg11⟩:∃g,g=w10.heap.size:=⟨_,rfl⟩
    obtain⟨W11,hW11⟩:∃W,W=w10.alloc (.cells #[.string x1,.string x2] 46):=⟨_,rfl⟩
    have hb11:Below w10.heap.size w10 W11:=hW11▸qbI qB qN
    have KA:=((K9.below h10.2).also (q:=fun W=>Below w9.heap.size w9 W) h10.2).on (q:=fun W=>W.heap[g11]? = some (.cells #[.string x1,.string x2] 46 (0,0))) hb11 (by rw [hW11,hg11];exact heap_alloc_new w10 _)
    clear h10 d0 d1 d2 d3 K9 hT0 hF1 hF2 hF3 hb11
    go_upto_region 11 with (first | ((with_reducible refine qb1 rfl 46 _ _ rfl #[.string ⟨#[]⟩,.string ⟨#[]⟩] #[.string x1,.string x2] ?_ ?_ 2 ?_ ?_ ?_ ?_ ?_);(next=>rfl);(next=>rfl);(next=>kernel_rfl);(next=>rfl);(next=>rfl);(next=>rfl)) | fail)
    rw [←hg11,←hW11]
    clear hg11 hW11
    have d0:=cell_of_row _ _ 0 _ _ _ KA.out.1.1.2
    have d1:=cell_of_row _ _ 1 _ _ _ KA.out.1.1.2
    have d2:=cell_of_row _ _ 2 _ _ _ KA.out.1.1.2
    have d3:=cell_of_row _ _ 3 _ _ _ KA.out.1.1.2
    go_wp2_with fail
    obtain⟨b,off,b1,o1,b2,o2,b3,o3,hT0,hF1,hF2,hF3⟩:=KA.out.1.1.1.2.four
    refine (p4.qiy p0 b off m0 k0 t p1 b1 o1 m1 k1 l p2 b2 o2 m2 k2 u p3 b3 o3 m3 k3 x _ HM.out.1 (by have:=HM.out.2.2.2.2.1;omega) (fun i hi=>by have:=HM.out.2.2.2.2.2.2.2.2 i hi;omega) HR.out.small hT0.tc HM.out.2.1 (by have:=HM.out.2.2.2.2.2.1;omega) HR.out.b2.small hF1 HM.out.2.2.1 (by have:=HM.out.2.2.2.2.2.2.1;omega) HR.out.u2.small hF2 HM.out.2.2.2.1 (by have:=HM.out.2.2.2.2.2.2.2.1;omega) HR.out.x2.small hF3).mono ?_
    rintro e w12 h12
    obtain rfl:=meas_two H10.out h12
    obtain⟨g13,hg13⟩:∃g,g=w12.heap.size:=⟨_,rfl⟩
    obtain⟨W13,hW13⟩:∃W,W=w12.alloc (.cells #[.string x1,.string x2] 46):=⟨_,rfl⟩
    have hb13:Below w12.heap.size w12 W13:=hW13▸qbI qB qN
    have KB:=(KA.below h12.2).on (q:=fun W=>W.heap[g13]? = some (.cells #[.string x1,.string x2] 46 (0,0))) hb13 (by rw [hW13,hg13];exact heap_alloc_new w12 _)
    clear h12 d0 d1 d2 d3 KA hT0 hF1 hF2 hF3 hb13 H10
    go_upto_region 12 with (first | ((with_reducible refine qb1 rfl 46 _ _ rfl #[.string ⟨#[]⟩,.string ⟨#[]⟩] #[.string x1,.string x2] ?_ ?_ 2 ?_ ?_ ?_ ?_ ?_);(next=>rfl);(next=>rfl);(next=>kernel_rfl);(next=>rfl);(next=>rfl);(next=>rfl)) | fail)
    rw [←hg13,←hW13]
    clear hg13 hW13
    have hse:(se != se)=false:=by simp
    have hce:(ce != ce)=false:=by simp
    go_wp2_with fail
    refine (HS.out _ KB.out.1.1.2).mono ?_
    rintro e w14 ⟨ok,rfl,hok,hb⟩
    obtain rfl:=hok.2 rfl
    have KC:=KB.below hb
    clear hok hb KB HS
    have r11:=KC.out.1.2
    have r13:=KC.out.2
    have s0:=cell_of_row _ _ 0 _ _ _ r11
    have s1:=cell_of_row _ _ 1 _ _ _ r11
    have s2:=cell_of_row _ _ 0 _ _ _ r13
    have s3:=cell_of_row _ _ 1 _ _ _ r13
    go_wp2_with fail
    go_roundw
    case rel=>exact⟨k+1,by go_num,hk4,qH KC.out.1.1.1.1.1⟩
    case measure=>simp [intOf];omega
  ·obtain rfl:k=4:=by omega
   go_wp2_with fail
   go_ret
   exact⟨rfl,H3.out.1.trans (hB.out.mono H3.out.1.size)⟩
end Go.Proofs.YtfminfgabiipjaaGreatDoor
