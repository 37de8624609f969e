import Derived.Test.YtplkdeknjghobaaGreatDoorBs27
set_option maxRecDepth 100000
set_option maxHeartbeats 0
namespace Go.Proofs.YtplkdeknjghobaaGreatDoor
open Go.ChangeShapes Go.WideShapes Go.ChangeAt Go.RowKit Go.Deep
theorem wf_u8 {z:Int} (h:(Lit.int .u8 z).wf=true):∃n:Nat,z=(n:Int)/\n<256:=by
 have h2:0<=z/\z<=255:=by simpa [Lit.wf,IntKind.min,IntKind.max,IntKind.signed,IntKind.bits] using h
 exact⟨z.toNat,by omega,by omega⟩
section
variable {H:Type} {enc:TypeId×Value->H} {w:World} {sp:Nat->Bool} {held:Bool} {fuel:Nat} {v:Value} {x:DataW H×List MemPlace}
theorem c7A:Tryz.prog.cellsOf 201=7:=by kernel_rfl
theorem c1I:Tryz.prog.cellsOf 200=1:=by kernel_rfl
theorem qmy {cs:List Value} (h:DataW.trod enc Tryz.prog w 0 sp held fuel 201 cs=some x) {a:Addr} (hc:w.cells? 0 a 7=some cs) (hs:a.spot=none) :
  ∃zs:List Int,(∀j,j<7->w.cell? ⟨a.block,a.off+j,none⟩=some (.int .i16 (zs.getD j 0)))/\∀j,-32768<=zs.getD j 0/\zs.getD j 0<=32767:=by
 obtain⟨_,hlen,hcell⟩:=World.cells?_some hc;obtain⟨xs,n,_,_,_,hxl,hf⟩:=DataW.trod_array Tryz.underlying201 h;obtain⟨ab,ao,asp⟩:=a;have hs:asp=none:=hs;subst hs;have each:∀i,i<7->∃z:Int,w.cell? ⟨ab,ao+i,none⟩=some (.int .i16 z)/\-32768<=z/\z<=32767:=fun i hi=>by
  have h1:=hf i hi;rw [c1I,qbF,qbs (by omega),qaf (show i<xs.length by omega)] at h1;obtain⟨z,e1,_,hw⟩:=DataW.trod_int Tryz.underlying200 h1;have e2:cs[i]'(by omega)=Value.int .i16 z:=(List.cons.inj (show [cs[i]'(by omega)]=[Value.int .i16 z] from e1)).1;have h3:=hcell i hi;rw [Addr.add_mid,qaf (by omega),e2] at h3;have h2:-32768<=z/\z<=32767:=by simpa [Lit.wf,IntKind.min,IntKind.max,IntKind.signed,IntKind.bits] using hw
  exact⟨z,h3,h2⟩
 obtain⟨Y,hY⟩:=choose_lt each;have hg:∀j,j<7->((List.range 7).map Y).getD j 0=Y j:=fun j hj=>by
  rw [qaa,qaB,qbn hj];rfl
 refine⟨(List.range 7).map Y,fun j hj=>by rw [hg j hj];exact (hY j hj).1,fun j=>?_⟩;rcases qaH j 7 with hj | hj
 ·rw [hg j hj];exact (hY j hj).2
 ·rw [qaa,qaN (by simpa using hj)];exact⟨by decide,by decide⟩
theorem qkY (h:DataW.trod enc Tryz.prog w 0 sp held fuel 22 [v]=some x):∃(a:Option Addr) (b off c:Nat) (L:List (List Int)),v=.slice a L.length c/\L.length<=maxLen/\PRws w a b off L:=by
 rcases open_slice Tryz.underlying22 h with ⟨hcs,_⟩ | ⟨a,len,cap,m,n,D,Pl,hcs,_,hl,hm,hmm,_,hx⟩
 ·exact⟨none,0,0,0,[],by injection hcs,by decide,⟨fun h=>absurd h (by decide),fun k h=>absurd h (by simp),fun k j=>by simp⟩⟩
 ·have hlm:len<=m:=by rw [hmm];split <;> omega
  have hsp:0<len->a=⟨a.block,a.off,none⟩:=fun h0=>by
   obtain⟨cs',h1,_⟩:=hx 0 (by omega);rw [c7A] at h1;obtain⟨_,hlen,hcell⟩:=World.cells?_some h1;have h3:=hcell 0 (by decide);rw [add_add] at h3;have h4:w.cell? (a.add 0)=cs'[0]?:=h3;rw [qaf (by omega)] at h4;exact qg5 h4
  have each:∀i,i<len->∃zs:List Int,(∀j,j<7->w.cell? ⟨a.block,a.off+i*7+j,none⟩=some (.int .i16 (zs.getD j 0)))/\∀j,-32768<=zs.getD j 0/\zs.getD j 0<=32767:=fun i hi=>by
   obtain⟨cs',h1,h2⟩:=hx i (by omega);rw [c7A] at h1;have ha:=hsp (by omega);have hadd:a.add (i*7)=⟨a.block,a.off+i*7,none⟩:=by rw [ha,Addr.add_mid]
   rw [hadd] at h1;exact qmy h2 h1 rfl
  obtain⟨Y,hY⟩:=choose_lt each;have hg:∀k,k<len->((List.range len).map Y).getD k []=Y k:=fun k hk=>by
   rw [qaa,qaB,qbn hk];rfl
  have hln:((List.range len).map Y).length=len:=by rw [qax,qbG]
  refine⟨some a,a.block,a.off,cap,(List.range len).map Y,by rw [hln];injection hcs,by rw [hln];omega,⟨fun h0=>?_,fun k hk=>?_,fun k j=>?_⟩⟩
  ·rw [hln] at h0;exact congrArg some (hsp h0)
  ·rw [hln] at hk;rw [hg k hk];exact (hY k hk).1
  ·rcases qaH k len with hk | hk
   ·rw [hg k hk];exact (hY k hk).2 j
   ·have e:((List.range len).map Y).getD k []=[]:=by rw [qaa,qaN (by rw [hln];exact hk)];rfl
    rw [e];simp
theorem open_pd {r:Reach} {b0:Nat} {d:DataW H} {p:List MemPlace} (hv:Value.okWide Tryz.prog w r b0 24 v) (h:DataW.Trod enc Tryz.prog w 0 sp held 24 v d p) :
  ∃(ch:Nat) (L:List (List Int)),PdAt w v ch L:=by
 obtain⟨v0,v1,y0,y1,n,rfl,rfl,rfl,h0,h1⟩:=Joins.open_agg2 Tryz.underlying24 (by kernel_rfl) (by kernel_rfl) hv h;obtain⟨ch,rfl,hch⟩:=open_u8 h0;obtain⟨a,b,off,c,L,rfl,hl,hC⟩:=qkY h1;unfold maxLen at hl;exact⟨ch,L,a,b,off,c,rfl,hch,by omega,hC⟩
theorem open_us {r:Reach} {b0:Nat} {d:DataW H} {p:List MemPlace} (hv:Value.okWide Tryz.prog w r b0 28 v) (h:DataW.Trod enc Tryz.prog w 0 sp held 28 v d p) :
  ∃(a:Option Addr) (b off c:Nat) (G:List Int),v=.slice a G.length c/\G.length<=9223372036854775807/\KCells w .u16 a b off G/\∀k,0<=G.getD k 0/\G.getD k 0<65536:=by
 obtain⟨fuel,hf⟩:=h;have hc:=okWide_slice Tryz.underlying28 hv;obtain⟨a,n,c,rfl⟩:=hc;have hf':DataW.trod enc Tryz.prog w 0 sp held fuel 28 [.slice a n c]=some (d,p):=hf;obtain⟨a,b,off,c,l,e,hl,hK,hr⟩:=qmz hf';unfold maxLen at hl;exact⟨a,b,off,c,l,e,by omega,hK,hr⟩
end
end Go.Proofs.YtplkdeknjghobaaGreatDoor
section
namespace Go.Proofs.YtplkdeknjghobaaGreatDoor
open Go.ChangeShapes Go.WideShapes Go.ChangeAt Go.RowKit
open Go.ChangeMaps (open_string shut_string)
namespace LfitSums
theorem lifted (os:Os) (started:os.Started) (H:Type) (enc:TypeId×Value->H) :
  ReturnsInHanded {} Tryz.checked os 6 .any (fun w args=>(Rows.fitSumsSpec.pre enc Tryz.prog Tryz.f6 [] false w args/\laidMetH Tryz.prog laidK w)/\sizedMet enc Tryz.prog Tryz.f6 (OpenSpec.ofChange Rows.fitSumsSpec) false w args)
   (Rows.fitSumsSpec.post enc Tryz.prog Tryz.f6 false true false false):=by
 refine returnsInHanded_of_change_and (C:=Tryz.checked) (X:=fun w _=>laidMetH Tryz.prog laidK w) (fun _ _ _ hh h=>h.of_heap hh) Tryz.own started (by kernel_rfl) Tryz.func6
  (ChangeSpec.witness_shaped (enc:=enc) (C:=Tryz.checked) (os:=os) (X:=fun w _=>laidMetH Tryz.prog laidK w) false (World.laidAll Tryz.prog os laidK) #[.agg #[.int .u8 0,.slice none 0 0],.int .u8 0,.slice none 0 0] 8 (World.laidAll_os _ _ _) (World.shaped_of_ZipB (by kernel_rfl) (by kernel_rfl)) (by kernel_rfl) (by kernel_rfl) (by kernel_rfl) (by rw [MakeChecks.laidMetH_plain _ _ _ (by kernel_rfl)];exact laidMet_laidAll _ (by kernel_rfl) (by kernel_rfl))) ?_
 intro W base args ds gs before hval0 hW _ hsz hL _;have hval:∀(j:Nat) t v,Tryz.f6.params[j]? = some t->args[j]? = some v->Value.okWide Tryz.prog W .any base t v:=hval0;have hW':=hW;obtain⟨p,q,hA0,hV,rfl,hfz,hnd⟩:=hW;have hA:DataW.TrodAll enc Tryz.prog W 0 (fun _=>true) true Tryz.f6.params.toList args.toList ds p:=hA0;rw [Tryz.params6] at hA hval;obtain⟨v0,v1,v2,d0,d1,d2,p0,p1,p2,rfl,rfl,rfl,h0,h1,h2⟩:=trodAll_three hA;obtain⟨rfl,rfl⟩:=trodVars_none hV;have k0:=h0;have lt0:∀x∈p0,x.block<W.heap.size:=by obtain⟨m,hm⟩:=k0;exact DataW.trod_lt m _ _ _ hm
 obtain⟨ch,L,hM0⟩:=open_pd (hval 0 24 v0 rfl rfl) h0;obtain⟨z1,rfl,rfl,rfl,w1⟩:=open_int Tryz.underlying5 (hval 1 5 v1 rfl rfl) h1;obtain⟨t,rfl,kt⟩:=wf_u8 w1;have k2:=h2;have lt2:∀x∈p2,x.block<W.heap.size:=by obtain⟨m,hm⟩:=k2;exact DataW.trod_lt m _ _ _ hm
 obtain⟨ga2,gb2,go2,gc2,G2,rfl,gl2,hG2,gw2⟩:=open_us (hval 2 28 v2 rfl rfl) h2;clear hA0 hval0 hsz;simp only [List.append_nil] at hW';refine (qjq ch t gb2 go2 gc2 L G2 ga2 _ W hM0 kt hG2 gl2 gw2 (qmw hL).1 (qmw hL).2).mono fun e W' ⟨he,hb⟩=>?_
 subst he;exact⟨_,rfl,qhZ (pa:=p0++p2) (pv:=[]) hW' (fun _ _ _=>trodAll_mk1 (shut_bool Tryz.underlying4 _)) (fun sp hsp=>(by have h:=trodAll_mk3 (show DataW.Trod enc Tryz.prog _ 0 sp true 24 _ d0 p0 from (WideElems.Trod_stays Tryz.laidOut (by kernel_rfl) (of_decide_eq_true (by kernel_rfl)) k0 (fun x hx=>hb.same (lt0 x hx)) (fun x hx=>hsp x (by simp [hx])))) (shut_int Tryz.underlying5 w1) (show DataW.Trod enc Tryz.prog _ 0 sp true 28 _ d2 p2 from (WideElems.Trod_stays Tryz.laidOut (by kernel_rfl) (of_decide_eq_true (by kernel_rfl)) k2 (fun x hx=>hb.same (lt2 x hx)) (fun x hx=>hsp x (by simp [hx]))));simp only [qbi] at h;exact h)) (fun _ _=>rfl) (by simp) hb (ok_one (by kernel_rfl) rfl (okWide_bool_mk Tryz.underlying4 _))⟩
theorem j1:(Rows.fitSumsRow.inPlace == Tryz.prog.inPlace 6)=true:=by kernel_rfl
theorem j2:(Rows.fitSumsRow.unfollowed == Tryz.prog.unfollowed 6)=true:=by kernel_rfl
theorem j3:(Rows.fitSumsRow.recurses == Tryz.prog.recurses 6)=true:=by kernel_rfl
theorem j4:(Rows.fitSumsRow.named == Tryz.prog.varsNamed 6)=true:=by kernel_rfl
theorem j5:Rows.fitSumsRow.wf (OpenSpec.ofChange Rows.fitSumsSpec)=true:=by kernel_rfl
theorem j6:(Rows.fitSumsRow.lifted == Tryz.prog.liftsFinal)=true:=jf6
theorem j7:(Tryz.prog.make == some Rows.fitSumsRow.make)=true:=jf7
theorem facts:joinedFacts Tryz.prog 6 Tryz.f6 Rows.fitSumsSpec Rows.fitSumsRow=true:=by
 simp only [joinedFacts,jf1,jf2,jf3,jf4,jf5,j1,j2,j3,j4,j5,j6,j7,Bool.and_true,Bool.true_and]
 kernel_rfl
theorem holds:Rows.FitSumsSaid :=
 OpenClaim.holds_of_wide 6 Tryz.f6 rfl rfl rfl rfl rfl rfl rfl ⟨rfl,rfl,rfl,rfl,rfl⟩ rfl rfl rfl rfl rfl (by kernel_rfl) Tryz.func6 facts
  (of_decide_eq_true (by kernel_rfl)) (by unfold Func.isWrapper;first | (rw [if_pos (by decide +kernel)];kernel_rfl) | (rw [if_neg (by decide +kernel)];exact⟨rfl,rfl⟩))
  (fun os started H enc _=>lifted os started H enc)
end LfitSums
theorem fitSums_card:Rows.FitSumsCardSaid :=
 Claim7.holds_tied_plain_at .later [] [.data,.data,.data,.sentinel,.sentinel] true (true, "9b05d2fc1ff85d5dc0477f326f390b72a370e4f499729e5259227d07228ba241") true
  LfitSums.holds (fun _ h=>by cases h) (by as_aux_lemma=>kernel_rfl) (fun _ h=>by cases h) fitSums_row_tie rfl ⟨rfl,rfl⟩ (by as_aux_lemma=>kernel_rfl) rfl
  (fun f fn hf hfn=>by
   obtain rfl:f=6:=qai ((show Tryz.prog.funcNamed "verdigris/verdigrislaw32.FitSums" = some 6 by as_aux_lemma=>kernel_rfl).symm.trans hf) |>.symm
   obtain rfl:fn=Tryz.f6:=(qai (Tryz.func6.symm.trans hfn)).symm;exact⟨by as_aux_lemma=>kernel_rfl,fun j t ht=>by
    rw [Tryz.params6] at ht;have hm:t∈([24,5,28]:List Nat):=by simpa using Array.mem_of_getElem? ht
    have hall:(([24,5,28]:List Nat).all fun u=>!Tryz.prog.wantsStandIn u)=true:=by as_aux_lemma=>kernel_rfl
    exact (show Tryz.prog.wantsStandIn t=false by simpa using qa5.1 hall t hm)⟩)
  (by as_aux_lemma=>kernel_rfl)
#print axioms fitSums_card
