/- OctetBack is proved: whatever the input, numbers and texts that are written between other octets are read back. Condition: the two listed variables read as laid, which the card ties; the walk does not read them. -/
import Derived.Test.YtgjfhamophknfaaDoorL0
import Derived.Test.YtgjfhamophknfaaDoorC8
namespace Go.Proofs.YtgjfhamophknfaaDoor
open Go.ChangeShapes Go.WideShapes Go.ChangeAt Go.RowKit
open Go.ChangeMaps (open_string shut_string)
namespace LoctetBack

set_option maxRecDepth 100000 in
theorem lifted (os : Os) (started : os.Started) (H : Type) (enc : TypeId × Value → H) :
    ReturnsInHanded {} Tryd.checked os 6 .any (fun w args => (Rows.octetBackSpec.pre enc Tryd.prog Tryd.f6 [] false w args ∧ laidMetH Tryd.prog laidK w) ∧ sizedMet enc Tryd.prog Tryd.f6 (OpenSpec.ofChange Rows.octetBackSpec) false w args)
      (Rows.octetBackSpec.post enc Tryd.prog Tryd.f6 false true false false) := by
  refine returnsInHanded_of_change_and (C := Tryd.checked) (X := fun w _ => laidMetH Tryd.prog laidK w) (fun _ _ _ hh h => h.of_heap hh) Tryd.own started (by kernel_rfl) Tryd.func6
    (ChangeSpec.witness_shaped (enc := enc) (C := Tryd.checked) (os := os) (X := fun w _ => laidMetH Tryd.prog laidK w) false (World.laidAll Tryd.prog os laidK) #[.string ⟨#[]⟩, .string ⟨#[]⟩, .int .i64 0, .string ⟨#[]⟩, .int .u8 0] 8 (World.laidAll_os _ _ _) (World.shaped_of_ZipB (by kernel_rfl) (by kernel_rfl)) (by kernel_rfl) (by kernel_rfl) (by kernel_rfl) (by rw [MakeChecks.laidMetH_plain _ _ _ (by kernel_rfl)]; exact laidMet_laidAll _ (by kernel_rfl) (by kernel_rfl))) ?_
  intro W base args ds gs before hval0 hW _ hsz hL _
  have hval : ∀ (j : Nat) t v, Tryd.f6.params[j]? = some t → args[j]? = some v → Value.okWide Tryd.prog W .any base t v := hval0
  have hW' := hW
  obtain ⟨p, q, hA0, hV, rfl, hfz, hnd⟩ := hW
  have hA : DataW.TrodAll enc Tryd.prog W 0 (fun _ => true) true Tryd.f6.params.toList args.toList ds p := hA0
  rw [Tryd.params6] at hA hval
  obtain ⟨v0, v1, v2, v3, v4, d0, d1, d2, d3, d4, p0, p1, p2, p3, p4, rfl, rfl, rfl, h0, h1, h2, h3, h4⟩ := trodAll_five hA
  obtain ⟨rfl, rfl⟩ := trodVars_none hV
  obtain ⟨P, rfl, rfl, rfl, hP⟩ := open_string Tryd.underlying9 (hval 0 9 v0 rfl rfl) h0
  have hPs : P.size ≤ 140737488355328 := str_reach hsz (j := 0) rfl rfl
  obtain ⟨Q, rfl, rfl, rfl, hQ⟩ := open_string Tryd.underlying9 (hval 1 9 v1 rfl rfl) h1
  have hQs : Q.size ≤ 140737488355328 := str_reach hsz (j := 1) rfl rfl
  obtain ⟨n, rfl, rfl, rfl, w2⟩ := open_int Tryd.underlying3 (hval 2 3 v2 rfl rfl) h2
  obtain ⟨t, rfl, rfl, rfl, ht⟩ := open_string Tryd.underlying9 (hval 3 9 v3 rfl rfl) h3
  have hts : t.size ≤ 140737488355328 := str_reach hsz (j := 3) rfl rfl
  obtain ⟨z4, rfl, rfl, rfl, w4⟩ := open_int Tryd.underlying5 (hval 4 5 v4 rfl rfl) h4
  obtain ⟨m, rfl, km⟩ := wf_u8 w4
  clear hA0 hval0 hsz
  simp only [List.append_nil] at hW'
  have hw2 := w2
  simp only [Lit.wf, Bool.and_eq_true, decide_eq_true_eq] at hw2
  have hn1 : -9223372036854775808 ≤ n := hw2.1
  have hn2 : n ≤ 9223372036854775807 := hw2.2
  refine (back_walk P Q n t m hPs hQs hts km hn1 hn2 W).mono fun e W' ⟨he, hb⟩ => ?_
  subst he
  exact ⟨_, rfl, post_of_below (pa := []) (pv := []) hW' (fun _ _ _ => trodAll_mk1 (shut_bool Tryd.underlying4 _)) (fun sp hsp => trodAll_mk5 (shut_string Tryd.underlying9 hP) (shut_string Tryd.underlying9 hQ) (shut_int Tryd.underlying3 w2) (shut_string Tryd.underlying9 ht) (shut_int Tryd.underlying5 w4)) (fun _ _ => rfl) rfl hb (ok_one (by kernel_rfl) rfl (okWide_bool_mk Tryd.underlying4 _))⟩

theorem holds : Rows.OctetBackSaid :=
  OpenClaim.holds_of_wide 6 Tryd.f6 rfl rfl rfl rfl rfl rfl rfl ⟨rfl, rfl, rfl, rfl, rfl⟩ rfl rfl rfl rfl rfl (by kernel_rfl) Tryd.func6 (by kernel_rfl)
    (of_decide_eq_true (by kernel_rfl)) (by unfold Func.isWrapper; first | (rw [if_pos (by decide +kernel)]; kernel_rfl) | (rw [if_neg (by decide +kernel)]; exact ⟨rfl, rfl⟩))
    (fun os started H enc _ => lifted os started H enc)
end LoctetBack

theorem octetBack_card : Rows.OctetBackCardSaid :=
  Claim7.holds_tied_plain_at .later [] [.data, .pinned] true (true, "3bd0da2e2437399cbe2830cd0ab725b3a779692d93ba8bfff934554a35c03c15") false
    LoctetBack.holds (fun _ h => by cases h) (by kernel_rfl) (fun _ h => by cases h) octetBack_row_tie rfl ⟨rfl, rfl⟩ (by kernel_rfl) rfl
    (fun f fn hf hfn => by
      obtain rfl : f = 6 := Option.some.inj ((show Tryd.prog.funcNamed "verdigris/verdigrislaw07.OctetBack" = some 6 by kernel_rfl).symm.trans hf) |>.symm
      obtain rfl : fn = Tryd.f6 := (Option.some.inj (Tryd.func6.symm.trans hfn)).symm
      exact ⟨by kernel_rfl, fun j t ht => by
        rw [Tryd.params6] at ht
        have hm : t ∈ ([9, 9, 3, 9, 5] : List Nat) := by simpa using Array.mem_of_getElem? ht
        have hall : (([9, 9, 3, 9, 5] : List Nat).all fun u => !Tryd.prog.wantsStandIn u) = true := by kernel_rfl
        exact (show Tryd.prog.wantsStandIn t = false by simpa using List.all_eq_true.1 hall t hm)⟩)
    (by kernel_rfl)
#print axioms octetBack_card
end Go.Proofs.YtgjfhamophknfaaDoor
