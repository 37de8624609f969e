/- DigestBack is proved: whatever the input, Unhex inverts Hex and what is read is the text of what it is read as. Condition: the listed variable (the 64 constants) reads as the program's text lays it, which the card ties to that text. -/
import Derived.Test.YtfhddcjepgjfnaaDoorL0
import Derived.Test.YtfhddcjepgjfnaaDoorArr
import Derived.Test.YtfhddcjepgjfnaaDoorOb
import Derived.Test.YtfhddcjepgjfnaaDoorA32
namespace Go.Proofs.YtfhddcjepgjfnaaDoor
open Go.ChangeShapes Go.WideShapes Go.ChangeAt Go.RowKit
open Go.ChangeMaps (open_string shut_string)
namespace LdigestBack

set_option maxRecDepth 100000 in
theorem lifted (os : Os) (started : os.Started) (H : Type) (enc : TypeId × Value → H) :
    ReturnsInHanded {} Tryd.checked os 6 .any (fun w args => (Rows.digestBackSpec.pre enc Tryd.prog Tryd.f6 [] false w args ∧ laidMetH Tryd.prog laidK w) ∧ sizedMet enc Tryd.prog Tryd.f6 (OpenSpec.ofChange Rows.digestBackSpec) false w args)
      (Rows.digestBackSpec.post enc Tryd.prog Tryd.f6 false true false false) := by
  refine returnsInHanded_of_change_and (C := Tryd.checked) (X := fun w _ => laidMetH Tryd.prog laidK w) (fun _ _ _ hh h => h.of_heap hh) Tryd.own started (by kernel_rfl) Tryd.func6
    (ChangeSpec.witness_shaped (enc := enc) (C := Tryd.checked) (os := os) (X := fun w _ => laidMetH Tryd.prog laidK w) false (World.doorLaid Tryd.prog 400 os) #[.agg z16, .string ⟨#[]⟩] 8 rfl (World.shaped_of_RefB (by kernel_rfl) (by kernel_rfl)) (by kernel_rfl) (by kernel_rfl) (by kernel_rfl) (door_met os _)) ?_
  intro W base args ds gs before hval0 hW _ hsz hL _
  have hval : ∀ (j : Nat) t v, Tryd.f6.params[j]? = some t → args[j]? = some v → Value.okWide Tryd.prog W .any base t v := hval0
  have hW' := hW
  obtain ⟨p, q, hA0, hV, rfl, hfz, hnd⟩ := hW
  have hA : DataW.TrodAll enc Tryd.prog W 0 (fun _ => true) true Tryd.f6.params.toList args.toList ds p := hA0
  rw [Tryd.params6] at hA hval
  obtain ⟨v0, v1, d0, d1, p0, p1, rfl, rfl, rfl, h0, h1⟩ := trodAll_two hA
  obtain ⟨rfl, rfl⟩ := trodVars_none hV
  obtain ⟨zs, rfl, hn, hwf, rfl, rfl, shut0⟩ := open_arr_ints Tryd.underlying28 Tryd.underlying5 (by kernel_rfl) (by kernel_rfl) (hval 0 28 v0 rfl rfl) h0
  obtain ⟨t, rfl, rfl, rfl, ht⟩ := open_string Tryd.underlying9 (hval 1 9 v1 rfl rfl) h1
  have hts : t.size ≤ 140737488355328 := str_reach hsz (j := 1) rfl rfl
  clear hA0 hval0 hsz
  simp only [List.append_nil] at hW'
  obtain ⟨l, hl1, hl2, hl3⟩ := ob_ofInts zs hwf
  have hob : (zs.map (Value.int .u8)).toArray = ob l := by rw [hl3]; rfl
  have hwalk := back_any l (by rw [hl1, hn]) hl2 t hts W (of_laid hL)
  rw [← hob] at hwalk
  refine (hwalk).mono fun e W' ⟨he, hb⟩ => ?_
  subst he
  exact ⟨_, rfl, post_of_below (pa := []) (pv := []) hW' (fun _ _ _ => trodAll_mk1 (shut_bool Tryd.underlying4 _)) (fun sp _ => trodAll_mk2 (shut0 _ _ _ _) (shut_string Tryd.underlying9 ht)) (fun _ _ => rfl) rfl hb (ok_one (by kernel_rfl) rfl (okWide_bool_mk Tryd.underlying4 _))⟩

theorem holds : Rows.DigestBackSaid :=
  OpenClaim.holds_of_wide 6 Tryd.f6 rfl rfl rfl rfl rfl rfl rfl ⟨rfl, rfl, rfl, rfl, rfl⟩ rfl rfl rfl rfl rfl (by kernel_rfl) Tryd.func6 (by kernel_rfl)
    (of_decide_eq_true (by kernel_rfl)) (by unfold Func.isWrapper; first | (rw [if_pos (by decide +kernel)]; kernel_rfl) | (rw [if_neg (by decide +kernel)]; exact ⟨rfl, rfl⟩))
    (fun os started H enc _ => lifted os started H enc)
end LdigestBack

theorem digestBack_card : Rows.DigestBackCardSaid :=
  Claim7.holds_tied_plain_at .later [] [.data] true (true, "5e31a7453354b1d803bfdbe8040ae386c7340f7b690da59b1bee9f3a5a1e1474") false
    LdigestBack.holds (fun _ h => by cases h) (by kernel_rfl) (fun _ h => by cases h) digestBack_row_tie rfl ⟨rfl, rfl⟩ (by kernel_rfl) rfl
    (fun f fn hf hfn => by
      obtain rfl : f = 6 := Option.some.inj ((show Tryd.prog.funcNamed "verdigris/verdigrislaw08.DigestBack" = some 6 by kernel_rfl).symm.trans hf) |>.symm
      obtain rfl : fn = Tryd.f6 := (Option.some.inj (Tryd.func6.symm.trans hfn)).symm
      exact ⟨by kernel_rfl, fun j t ht => by
        rw [Tryd.params6] at ht
        have hm : t ∈ ([28, 9] : List Nat) := by simpa using Array.mem_of_getElem? ht
        have hall : (([28, 9] : List Nat).all fun u => !Tryd.prog.wantsStandIn u) = true := by kernel_rfl
        exact (show Tryd.prog.wantsStandIn t = false by simpa using List.all_eq_true.1 hall t hm)⟩)
    (by kernel_rfl)
#print axioms digestBack_card
end Go.Proofs.YtfhddcjepgjfnaaDoor
