import Derived.Test.YtjalhnlhcdfncaaGreatDoorBf25
set_option maxRecDepth 100000
set_option maxHeartbeats 0
section
namespace Go.Proofs.YtjalhnlhcdfncaaGreatDoor
open Go.ChangeShapes Go.WideShapes Go.ChangeAt Go.RowKit Go.Proofs.Tryz
open Go.ChangeMaps (open_string shut_string)
namespace LrobustFalls
theorem lifted (os:Os) (I:os.Started) (H:Type) (enc:TypeId×Value->H) :
  ReturnsInHanded {} Tryz.checked os 6 .any (fun w args=>(Rows.robustFallsSpec.pre enc prog Tryz.f6 [] false w args/\laidMetH prog laidK w)/\sizedMet enc prog Tryz.f6 (OpenSpec.ofChange Rows.robustFallsSpec) false w args)
   (Rows.robustFallsSpec.post enc prog Tryz.f6 false true false false):=by
 refine returnsInHanded_of_change_and (C:=Tryz.checked) (X:=fun w _=>laidMetH prog laidK w) (fun _ _ _ hh h=>h.of_heap hh) Tryz.own I (by kernel_rfl) func6
  (ChangeSpec.witness_shaped (enc:=enc) (C:=Tryz.checked) (os:=os) (X:=fun w _=>laidMetH prog laidK w) false (World.laidAll prog os laidK) #[.agg #[.int .u8 0,.slice none 0 0],.int .u8 0,.int .u8 0,.int .u8 0] 8 (World.laidAll_os _ _ _) (World.shaped_of_ZipB (by kernel_rfl) (by kernel_rfl)) (by kernel_rfl) (by kernel_rfl) (by kernel_rfl) (by rw [MakeChecks.laidMetH_plain _ _ _ (by kernel_rfl)];exact laidMet_laidAll _ (by kernel_rfl) (by kernel_rfl))) ?_
 intro W base args ds gs before G hW _ Y hL _;have F:∀(j:Nat) t v,Tryz.f6.params[j]? = some t->args[j]? = some v->Value.okWide prog W .any base t v:=G;have O:=hW;obtain⟨p,q,J,hV,rfl,ae,af⟩:=hW;have hA:DataW.TrodAll enc prog W 0 (fun _=>true) true Tryz.f6.params.toList args.toList ds p:=J;rw [Tryz.params6] at hA F;obtain⟨v0,v1,v2,v3,d0,d1,d2,d3,p0,p1,p2,p3,rfl,rfl,rfl,h0,h1,h2,h3⟩:=trodAll_four hA;obtain⟨rfl,rfl⟩:=trodVars_none hV;have k0:=h0;have aa:∀x∈p0,x.block<W.heap.size:=by obtain⟨m,hm⟩:=k0;exact DataW.trod_lt m _ _ _ hm
 obtain⟨ch,L,U⟩:=open_pd (F 0 43 v0 rfl rfl) h0;obtain⟨z1,rfl,rfl,rfl,w1⟩:=open_int underlying5 (F 1 5 v1 rfl rfl) h1;obtain⟨t,rfl,kt⟩:=wf_u8 w1;obtain⟨z2,rfl,rfl,rfl,w2⟩:=open_int underlying5 (F 2 5 v2 rfl rfl) h2;obtain⟨r,rfl,kr⟩:=wf_u8 w2;obtain⟨z3,rfl,rfl,rfl,w3⟩:=open_int underlying5 (F 3 5 v3 rfl rfl) h3;obtain⟨s,rfl,ks⟩:=wf_u8 w3;clear J G Y;simp only [qbB] at O;refine (qgq ch t r s L _ W U kt kr ks (of_laid hL)).mono fun e W' ⟨he,hb⟩=>?_
 subst he;exact⟨_,rfl,qhI (pa:=p0) (pv:=[]) O (fun _ _ _=>trodAll_mk1 (shut_bool underlying4 _)) (fun sp V=>(by have h:=trodAll_mk4 (show DataW.Trod enc prog _ 0 sp true 43 _ d0 p0 from (WideElems.Trod_stays Tryz.laidOut (by kernel_rfl) (of_decide_eq_true (by kernel_rfl)) k0 (fun x Z=>hb.same (aa x Z)) (fun x Z=>V x (by simp [Z])))) (shut_int underlying5 w1) (shut_int underlying5 w2) (shut_int underlying5 w3);simp only [qbB] at h;exact h)) (fun _ _=>rfl) (by simp) hb (ok_one (by kernel_rfl) rfl (okWide_bool_mk underlying4 _))⟩
theorem j1:(Rows.robustFallsRow.inPlace == Tryz.prog.inPlace 6)=true:=by kernel_rfl
theorem j2:(Rows.robustFallsRow.unfollowed == Tryz.prog.unfollowed 6)=true:=by kernel_rfl
theorem j3:(Rows.robustFallsRow.recurses == Tryz.prog.recurses 6)=true:=by kernel_rfl
theorem j4:(Rows.robustFallsRow.named == Tryz.prog.varsNamed 6)=true:=by kernel_rfl
theorem j5:Rows.robustFallsRow.wf (OpenSpec.ofChange Rows.robustFallsSpec)=true:=by kernel_rfl
theorem j6:(Rows.robustFallsRow.lifted == Tryz.prog.liftsFinal)=true:=jf6
theorem j7:(Tryz.prog.make == some Rows.robustFallsRow.make)=true:=jf7
theorem facts:joinedFacts prog 6 Tryz.f6 Rows.robustFallsSpec Rows.robustFallsRow=true:=by
 simp only [joinedFacts,jf1,jf2,jf3,jf4,jf5,j1,j2,j3,j4,j5,j6,j7,Bool.and_true,Bool.true_and]
 kernel_rfl
theorem holds:Rows.RobustFallsSaid :=
 OpenClaim.holds_of_wide 6 Tryz.f6 rfl rfl rfl rfl rfl rfl rfl ⟨rfl,rfl,rfl,rfl,rfl⟩ rfl rfl rfl rfl rfl (by kernel_rfl) func6 facts
  (of_decide_eq_true (by kernel_rfl)) (by unfold Func.isWrapper;first | (rw [if_pos (by decide +kernel)];kernel_rfl) | (rw [if_neg (by decide +kernel)];exact⟨rfl,rfl⟩))
  (fun os F H enc _=>lifted os F H enc)
end LrobustFalls
theorem robustFalls_card:Rows.RobustFallsCardSaid :=
 Claim7.holds_tied_plain_at .later [] [.data,.data,.data] true (true, "252e0a21811d6cb709456a3fcf7983f263497123ef99f17ea89c4d3ca69a01d1") true
  LrobustFalls.holds (fun _ h=>by cases h) (by as_aux_lemma=>kernel_rfl) (fun _ h=>by cases h) robustFalls_row_tie rfl ⟨rfl,rfl⟩ (by as_aux_lemma=>kernel_rfl) rfl
  (fun f I J G=>by
   obtain rfl:f=6:=qag ((show Tryz.prog.funcNamed "verdigris/verdigrislaw33.RobustFalls" = some 6 by as_aux_lemma=>kernel_rfl).symm.trans J) |>.symm
   obtain rfl:I=Tryz.f6:=(qag (Tryz.func6.symm.trans G)).symm;exact⟨by as_aux_lemma=>kernel_rfl,fun j t H=>by
    rw [Tryz.params6] at H;have O:t∈([43,5,5,5]:List Nat):=by simpa using Array.mem_of_getElem? H
    have F:(([43,5,5,5]:List Nat).all fun u=>!Tryz.prog.wantsStandIn u)=true:=by as_aux_lemma=>kernel_rfl
    exact (show Tryz.prog.wantsStandIn t=false by simpa using qax.1 F t O)⟩)
  (by as_aux_lemma=>kernel_rfl)
#print axioms robustFalls_card
