/- DigestPieces is proved: Check, More and Done of the program and of the reference agree for digests in progress, such with a change, and arbitrary ones. Condition: the listed variable (the 64 constants) reads as the program's text lays it, which the card ties to that text. -/
import Derived.Test.YtfhddcjepgjfnaaDoorL0
import Derived.Test.YtfhddcjepgjfnaaDoorDg
import Derived.Test.YtfhddcjepgjfnaaDoorA34
namespace Go.Proofs.YtfhddcjepgjfnaaDoor
open Go.ChangeShapes Go.WideShapes Go.ChangeAt Go.RowKit
open Go.ChangeMaps (open_string shut_string)
namespace LdigestPieces

set_option maxRecDepth 100000 in
theorem lifted (os : Os) (started : os.Started) (H : Type) (enc : TypeId × Value → H) :
    ReturnsInHanded {} Tryd.checked os 5 .any (fun w args => (Rows.digestPiecesSpec.pre enc Tryd.prog Tryd.f5 [] false w args ∧ laidMetH Tryd.prog laidK w) ∧ sizedMet enc Tryd.prog Tryd.f5 (OpenSpec.ofChange Rows.digestPiecesSpec) false w args)
      (Rows.digestPiecesSpec.post enc Tryd.prog Tryd.f5 false true false false) := by
  refine returnsInHanded_of_change_and (C := Tryd.checked) (X := fun w _ => laidMetH Tryd.prog laidK w) (fun _ _ _ hh h => h.of_heap hh) Tryd.own started (by kernel_rfl) Tryd.func5
    (ChangeSpec.witness_shaped (enc := enc) (C := Tryd.checked) (os := os) (X := fun w _ => laidMetH Tryd.prog laidK w) false (World.doorLaid Tryd.prog 400 os) #[.agg #[.string ⟨#[]⟩, .string ⟨#[]⟩, .int .u16 0], .string ⟨#[]⟩, .agg #[.int .u8 0, .int .u8 0, .int .i64 0], .agg #[.int .i64 0, .int .i64 0, .int .i64 0, .int .i64 0, .int .i64 0, .string ⟨#[]⟩]] 8 rfl (World.shaped_of_RefB (by kernel_rfl) (by kernel_rfl)) (by kernel_rfl) (by kernel_rfl) (by kernel_rfl) (door_met os _)) ?_
  intro W base args ds gs before hval0 hW _ hsz hL _
  have hval : ∀ (j : Nat) t v, Tryd.f5.params[j]? = some t → args[j]? = some v → Value.okWide Tryd.prog W .any base t v := hval0
  have hW' := hW
  obtain ⟨p, q, hA0, hV, rfl, hfz, hnd⟩ := hW
  have hA : DataW.TrodAll enc Tryd.prog W 0 (fun _ => true) true Tryd.f5.params.toList args.toList ds p := hA0
  rw [Tryd.params5] at hA hval
  obtain ⟨v0, v1, v2, v3, d0, d1, d2, d3, p0, p1, p2, p3, rfl, rfl, rfl, h0, h1, h2, h3⟩ := trodAll_four hA
  obtain ⟨rfl, rfl⟩ := trodVars_none hV
  obtain ⟨S, L, T, rfl, hT, rfl, rfl, shut0⟩ := open_long (hval 0 24 v0 rfl rfl) h0
  have hst := sized_struct (P := Tryd.prog) hsz (j := 0) rfl rfl Tryd.underlying24
  have hS : S.size ≤ 140737488355328 := str_reach hst (j := 0) rfl rfl
  have hLs : L.size ≤ 140737488355328 := str_reach hst (j := 1) rfl rfl
  obtain ⟨t, rfl, rfl, rfl, ht⟩ := open_string Tryd.underlying9 (hval 1 9 v1 rfl rfl) h1
  have hts : t.size ≤ 140737488355328 := str_reach hsz (j := 1) rfl rfl
  have k2 := h2
  obtain ⟨A, B, N, rfl, hAA, hBB, rfl⟩ := open_bend (hval 2 38 v2 rfl rfl) h2
  have k3 := h3
  obtain ⟨a, b, c, e, n, r, y0, y1, rfl, rfl, rfl⟩ := open_digest (hval 3 41 v3 rfl rfl) h3
  have hr : r.size ≤ 140737488355328 := str_reach (sized_struct (P := Tryd.prog) hsz (j := 3) rfl rfl Tryd.underlying41) (j := 2) rfl rfl
  clear hA0 hval0 hsz
  simp only [List.append_nil] at hW'
  refine (pieces_any S L t T A B N a b c e n r hT hS hLs hts hr hAA hBB W (of_laid hL)).mono fun e W' ⟨he, hb⟩ => ?_
  subst he
  exact ⟨_, rfl, post_of_below (pa := []) (pv := []) hW' (fun _ _ _ => trodAll_mk1 (shut_bool Tryd.underlying4 _)) (fun sp hsp => trodAll_mk4 (shut0 _ _ _ _) (shut_string Tryd.underlying9 ht) (WideElems.Trod_stays Tryd.laidOut2 (by kernel_rfl) (of_decide_eq_true (by kernel_rfl)) k2 (fun x hx => by cases hx) (fun x hx => by cases hx)) (WideElems.Trod_stays Tryd.laidOut2 (by kernel_rfl) (of_decide_eq_true (by kernel_rfl)) k3 (fun x hx => by cases hx) (fun x hx => by cases hx))) (fun _ _ => rfl) rfl hb (ok_one (by kernel_rfl) rfl (okWide_bool_mk Tryd.underlying4 _))⟩

theorem holds : Rows.DigestPiecesSaid :=
  OpenClaim.holds_of_wide 5 Tryd.f5 rfl rfl rfl rfl rfl rfl rfl ⟨rfl, rfl, rfl, rfl, rfl⟩ rfl rfl rfl rfl rfl (by kernel_rfl) Tryd.func5 (by kernel_rfl)
    (of_decide_eq_true (by kernel_rfl)) (by unfold Func.isWrapper; first | (rw [if_pos (by decide +kernel)]; kernel_rfl) | (rw [if_neg (by decide +kernel)]; exact ⟨rfl, rfl⟩))
    (fun os started H enc _ => lifted os started H enc)
end LdigestPieces

theorem digestPieces_card : Rows.DigestPiecesCardSaid :=
  Claim7.holds_tied_plain_at .later [] [.data] true (true, "5e31a7453354b1d803bfdbe8040ae386c7340f7b690da59b1bee9f3a5a1e1474") false
    LdigestPieces.holds (fun _ h => by cases h) (by kernel_rfl) (fun _ h => by cases h) digestPieces_row_tie rfl ⟨rfl, rfl⟩ (by kernel_rfl) rfl
    (fun f fn hf hfn => by
      obtain rfl : f = 5 := Option.some.inj ((show Tryd.prog.funcNamed "verdigris/verdigrislaw08.DigestPieces" = some 5 by kernel_rfl).symm.trans hf) |>.symm
      obtain rfl : fn = Tryd.f5 := (Option.some.inj (Tryd.func5.symm.trans hfn)).symm
      exact ⟨by kernel_rfl, fun j t ht => by
        rw [Tryd.params5] at ht
        have hm : t ∈ ([24, 9, 38, 41] : List Nat) := by simpa using Array.mem_of_getElem? ht
        have hall : (([24, 9, 38, 41] : List Nat).all fun u => !Tryd.prog.wantsStandIn u) = true := by kernel_rfl
        exact (show Tryd.prog.wantsStandIn t = false by simpa using List.all_eq_true.1 hall t hm)⟩)
    (by kernel_rfl)
#print axioms digestPieces_card
end Go.Proofs.YtfhddcjepgjfnaaDoor
