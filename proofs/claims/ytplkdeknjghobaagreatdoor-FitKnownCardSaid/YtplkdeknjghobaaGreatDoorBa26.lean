import Derived.Test.YtplkdeknjghobaaGreatDoorBa25
set_option maxRecDepth 100000
set_option maxHeartbeats 0
section
namespace Go.Proofs.YtplkdeknjghobaaGreatDoor
open Go.ChangeShapes Go.WideShapes Go.ChangeAt Go.RowKit
open Go.ChangeMaps (open_string shut_string)
namespace LfitKnown
theorem lifted (os:Os) (started:os.Started) (H:Type) (enc:TypeId×Value→H) :
  ReturnsInHanded {} Tryz.checked os 10 .any (fun w args=>(Rows.fitKnownSpec.pre enc Tryz.prog Tryz.f10 [] false w args∧laidMetH Tryz.prog laidK w)∧sizedMet enc Tryz.prog Tryz.f10 (OpenSpec.ofChange Rows.fitKnownSpec) false w args)
   (Rows.fitKnownSpec.post enc Tryz.prog Tryz.f10 false true false false):=by
 refine returnsInHanded_of_change_and (C:=Tryz.checked) (X:=fun w _=>laidMetH Tryz.prog laidK w) (fun _ _ _ hh h=>h.of_heap hh) Tryz.own started (by kernel_rfl) Tryz.func10
  (ChangeSpec.witness_shaped (enc:=enc) (C:=Tryz.checked) (os:=os) (X:=fun w _=>laidMetH Tryz.prog laidK w) false (World.laidAll Tryz.prog os laidK) #[] 8 (World.laidAll_os _ _ _) (World.shaped_of_ZipB (by kernel_rfl) (by kernel_rfl)) (by kernel_rfl) (by kernel_rfl) (by kernel_rfl) (by rw [MakeChecks.laidMetH_plain _ _ _ (by kernel_rfl)];exact laidMet_laidAll _ (by kernel_rfl) (by kernel_rfl))) ?_
 intro W base args ds gs before hval0 hW _ hsz hL _
 have hval:∀(j:Nat) t v,Tryz.f10.params[j]? = some t→args[j]? = some v→Value.okWide Tryz.prog W .any base t v:=hval0
 have hW':=hW
 obtain⟨p,q,hA0,hV,rfl,hfz,hnd⟩:=hW
 have hA:DataW.TrodAll enc Tryz.prog W 0 (fun _=>true) true Tryz.f10.params.toList args.toList ds p:=hA0
 rw [Tryz.params10] at hA hval
 obtain⟨rfl,rfl,rfl⟩:=trodAll_none hA
 obtain⟨rfl,rfl⟩:=trodVars_none hV
 clear hA0 hval0 hsz
 simp only [List.append_nil] at hW'
 refine (qiv W (qml hL).1 (qml hL).2).mono fun e W' ⟨he,hb⟩=>?_
 subst he
 exact⟨_,rfl,qh5 (pa:=[]) (pv:=[]) hW' (fun _ _ _=>trodAll_mk1 (shut_bool Tryz.underlying4 _)) (fun sp hsp=>trodAll_mk0) (fun _ _=>rfl) rfl hb (ok_one (by kernel_rfl) rfl (okWide_bool_mk Tryz.underlying4 _))⟩
theorem j1:(Rows.fitKnownRow.inPlace == Tryz.prog.inPlace 10)=true:=by kernel_rfl
theorem j2:(Rows.fitKnownRow.unfollowed == Tryz.prog.unfollowed 10)=true:=by kernel_rfl
theorem j3:(Rows.fitKnownRow.recurses == Tryz.prog.recurses 10)=true:=by kernel_rfl
theorem j4:(Rows.fitKnownRow.named == Tryz.prog.varsNamed 10)=true:=by kernel_rfl
theorem j5:Rows.fitKnownRow.wf (OpenSpec.ofChange Rows.fitKnownSpec)=true:=by kernel_rfl
theorem j6:(Rows.fitKnownRow.lifted == Tryz.prog.liftsFinal)=true:=jf6
theorem j7:(Tryz.prog.make == some Rows.fitKnownRow.make)=true:=jf7
theorem facts:joinedFacts Tryz.prog 10 Tryz.f10 Rows.fitKnownSpec Rows.fitKnownRow=true:=by
 simp only [joinedFacts,jf1,jf2,jf3,jf4,jf5,j1,j2,j3,j4,j5,j6,j7,Bool.and_true,Bool.true_and]
 kernel_rfl
theorem holds:Rows.FitKnownSaid :=
 OpenClaim.holds_of_wide 10 Tryz.f10 rfl rfl rfl rfl rfl rfl rfl ⟨rfl,rfl,rfl,rfl,rfl⟩ rfl rfl rfl rfl rfl (by kernel_rfl) Tryz.func10 facts
  (of_decide_eq_true (by kernel_rfl)) (by unfold Func.isWrapper;first | (rw [if_pos (by decide +kernel)];kernel_rfl) | (rw [if_neg (by decide +kernel)];exact⟨rfl,rfl⟩))
  (fun os started H enc _=>lifted os started H enc)
end LfitKnown
theorem fitKnown_card:Rows.FitKnownCardSaid :=
 Claim7.holds_tied_plain_at .later [] [.data,.data,.data,.sentinel,.sentinel] true (true, "9b05d2fc1ff85d5dc0477f326f390b72a370e4f499729e5259227d07228ba241") true
  LfitKnown.holds (fun _ h=>by cases h) (by kernel_rfl) (fun _ h=>by cases h) fitKnown_row_tie rfl ⟨rfl,rfl⟩ (by kernel_rfl) rfl
  (fun f fn hf hfn=>by
   obtain rfl:f=10:=qai ((show Tryz.prog.funcNamed "verdigris/verdigrislaw32.FitKnown" = some 10 by kernel_rfl).symm.trans hf) |>.symm
   obtain rfl:fn=Tryz.f10:=(qai (Tryz.func10.symm.trans hfn)).symm
   exact⟨by kernel_rfl,fun j t ht=>by
    rw [Tryz.params10] at ht
    have hm:t∈([]:List Nat):=by simpa using Array.mem_of_getElem? ht
    have hall:(([]:List Nat).all fun u=>!Tryz.prog.wantsStandIn u)=true:=by kernel_rfl
    exact (show Tryz.prog.wantsStandIn t=false by simpa using qaY.1 hall t hm)⟩)
  (by kernel_rfl)
#print axioms fitKnown_card
