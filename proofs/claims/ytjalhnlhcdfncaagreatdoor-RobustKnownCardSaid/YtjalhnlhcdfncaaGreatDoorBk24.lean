import Derived.Test.YtjalhnlhcdfncaaGreatDoorBk23
set_option maxRecDepth 100000
set_option maxHeartbeats 0
section
namespace Go.Proofs.YtjalhnlhcdfncaaGreatDoor
open Go.ChangeShapes Go.WideShapes Go.ChangeAt Go.RowKit Go.Proofs.Tryz
open Go.ChangeMaps (open_string shut_string)
namespace LrobustKnown
theorem lifted (os:Os) (G:os.Started) (H:Type) (enc:TypeId×Value->H) :
  ReturnsInHanded {} Tryz.checked os 8 .any (fun w args=>(Rows.robustKnownSpec.pre enc prog Tryz.f8 [] false w args/\laidMetH prog laidK w)/\sizedMet enc prog Tryz.f8 (OpenSpec.ofChange Rows.robustKnownSpec) false w args)
   (Rows.robustKnownSpec.post enc prog Tryz.f8 false true false false):=by
 refine returnsInHanded_of_change_and (C:=Tryz.checked) (X:=fun w _=>laidMetH prog laidK w) (fun _ _ _ hh h=>h.of_heap hh) Tryz.own G (by kernel_rfl) func8
  (ChangeSpec.witness_shaped (enc:=enc) (C:=Tryz.checked) (os:=os) (X:=fun w _=>laidMetH prog laidK w) false (World.laidAll prog os laidK) #[] 8 (World.laidAll_os _ _ _) (World.shaped_of_ZipB (by kernel_rfl) (by kernel_rfl)) (by kernel_rfl) (by kernel_rfl) (by kernel_rfl) (by rw [MakeChecks.laidMetH_plain _ _ _ (by kernel_rfl)];exact laidMet_laidAll _ (by kernel_rfl) (by kernel_rfl))) ?_
 intro W base args Z gs before F Y _ U hL _;have O:∀(j:Nat) t v,Tryz.f8.params[j]? = some t->args[j]? = some v->Value.okWide prog W .any base t v:=F;have J:=Y;obtain⟨p,q,I,hV,rfl,aa,ae⟩:=Y;have V:DataW.TrodAll enc prog W 0 (fun _=>true) true Tryz.f8.params.toList args.toList Z p:=I;rw [Tryz.params8] at V O;obtain⟨rfl,rfl,rfl⟩:=trodAll_none V;obtain⟨rfl,rfl⟩:=trodVars_none hV;clear I F U;simp only [qbE] at J;refine (qgz W (of_laid hL)).mono fun e W' ⟨he,hb⟩=>?_
 subst he;exact⟨_,rfl,qhM (pa:=[]) (pv:=[]) J (fun _ _ _=>trodAll_mk1 (shut_bool underlying4 _)) (fun sp af=>trodAll_mk0) (fun _ _=>rfl) rfl hb (ok_one (by kernel_rfl) rfl (okWide_bool_mk underlying4 _))⟩
theorem j1:(Rows.robustKnownRow.inPlace == Tryz.prog.inPlace 8)=true:=by kernel_rfl
theorem j2:(Rows.robustKnownRow.unfollowed == Tryz.prog.unfollowed 8)=true:=by kernel_rfl
theorem j3:(Rows.robustKnownRow.recurses == Tryz.prog.recurses 8)=true:=by kernel_rfl
theorem j4:(Rows.robustKnownRow.named == Tryz.prog.varsNamed 8)=true:=by kernel_rfl
theorem j5:Rows.robustKnownRow.wf (OpenSpec.ofChange Rows.robustKnownSpec)=true:=by kernel_rfl
theorem j6:(Rows.robustKnownRow.lifted == Tryz.prog.liftsFinal)=true:=jf6
theorem j7:(Tryz.prog.make == some Rows.robustKnownRow.make)=true:=jf7
theorem facts:joinedFacts prog 8 Tryz.f8 Rows.robustKnownSpec Rows.robustKnownRow=true:=by
 simp only [joinedFacts,jf1,jf2,jf3,jf4,jf5,j1,j2,j3,j4,j5,j6,j7,Bool.and_true,Bool.true_and]
 kernel_rfl
theorem holds:Rows.RobustKnownSaid :=
 OpenClaim.holds_of_wide 8 Tryz.f8 rfl rfl rfl rfl rfl rfl rfl ⟨rfl,rfl,rfl,rfl,rfl⟩ rfl rfl rfl rfl rfl (by kernel_rfl) func8 facts
  (of_decide_eq_true (by kernel_rfl)) (by unfold Func.isWrapper;first | (rw [if_pos (by decide +kernel)];kernel_rfl) | (rw [if_neg (by decide +kernel)];exact⟨rfl,rfl⟩))
  (fun os F H enc _=>lifted os F H enc)
end LrobustKnown
theorem robustKnown_card:Rows.RobustKnownCardSaid :=
 Claim7.holds_tied_plain_at .later [] [.data,.data,.data] true (true, "252e0a21811d6cb709456a3fcf7983f263497123ef99f17ea89c4d3ca69a01d1") true
  LrobustKnown.holds (fun _ h=>by cases h) (by as_aux_lemma=>kernel_rfl) (fun _ h=>by cases h) robustKnown_row_tie rfl ⟨rfl,rfl⟩ (by as_aux_lemma=>kernel_rfl) rfl
  (fun f I J G=>by
   obtain rfl:f=8:=qag ((show Tryz.prog.funcNamed "verdigris/verdigrislaw33.RobustKnown" = some 8 by as_aux_lemma=>kernel_rfl).symm.trans J) |>.symm
   obtain rfl:I=Tryz.f8:=(qag (Tryz.func8.symm.trans G)).symm;exact⟨by as_aux_lemma=>kernel_rfl,fun j t H=>by
    rw [Tryz.params8] at H;have O:t∈([]:List Nat):=by simpa using Array.mem_of_getElem? H
    have F:(([]:List Nat).all fun u=>!Tryz.prog.wantsStandIn u)=true:=by as_aux_lemma=>kernel_rfl
    exact (show Tryz.prog.wantsStandIn t=false by simpa using qaw.1 F t O)⟩)
  (by as_aux_lemma=>kernel_rfl)
#print axioms robustKnown_card
