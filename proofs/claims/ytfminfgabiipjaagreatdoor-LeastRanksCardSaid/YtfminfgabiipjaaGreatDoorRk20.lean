/- Rk, part 20: Fr9 -/
import Derived.Test.YtfminfgabiipjaaGreatDoorRk0
import Derived.Test.YtfminfgabiipjaaGreatDoorRk19
section
namespace Go.Proofs.YtfminfgabiipjaaGreatDoor
open Go.RowKit
set_option maxRecDepth 100000 in
set_option maxHeartbeats 1000000 in
theorem fadd_any (n d m c : ByteArray) (w : World) (hT : HasT w) :
  Calls Tryz.prog 41 #[.agg #[.string n, .string d], .agg #[.string m, .string c]] w fun e w' => FDoes w (· + ·) n.data.toList d.data.toList m.data.toList c.data.toList e w' := by
 have HT := qH hT
 have HA := qH (fun W => fapply_add n d m c W)
 obtain ⟨W1, hW1⟩ : ∃ W1, W1 = ((w.alloc (.cells #[.string n, .string d] 46)).alloc (.cells #[.string m, .string c] 46)).alloc (.cells #[.string ⟨#[]⟩, .string ⟨#[]⟩] 46) := ⟨_, rfl⟩
 have hb1 : Below w.heap.size w W1 := hW1 ▸ balloc (balloc (balloc qB qN) qN) qN
 have hr1 : W1.heap[w.heap.size + 1 + 1]? = some (.cells #[.string ⟨#[]⟩, .string ⟨#[]⟩] 46 (0, 0)) := by rw [hW1]; exact qM _ _ _ (by simp)
 have HR := qH (qA hb1 hr1)
 clear hb1 hr1 hT
 go_enter Tryz.func41, Tryz.ntmps41
 go_wp2_with fail
 rw [← hW1]
 clear hW1
 refine (HA.out W1).mono ?_
 rintro e w2 ⟨⟨v, er, rfl, h⟩, hb⟩
 have H2 := qH (qA ((hb.block _ (qG HR.out.2).1).trans HR.out.2) (HR.out.1.trans (hb.mono HR.out.1.size)))
 clear hb
 rcases h with ⟨hf, rfl, hv⟩ | ⟨hf, rfl, rfl⟩
 ·have hres := fresult_ok _ (67 + 67 + 1) (by decide) (by decide) v w2 hv (hf.1.fit.add hf.2.fit) (HT.out.below H2.out.2)
  have HF := qH hf
  have HRS := qH hres
  obtain ⟨a7, n7, c7, b7, d7, e7, f7, rfl⟩ := rat_shape hv
  clear hf hres hv
  go_wp2_with fail
  refine HRS.out.mono ?_
  rintro e w3 ⟨h, hb⟩
  have H3 := qH (qA ((hb.block _ (qG H2.out.1).1).trans H2.out.1) (H2.out.2.trans (hb.mono H2.out.2.size)))
  clear hb
  rcases h with ⟨hs, rfl⟩ | ⟨hs, rfl⟩
  ·unfold fstr
   have HS := qH hs
   obtain ⟨q, hq⟩ : ∃ q, ((· + ·) : Rat → Rat → Rat) (fval n.data.toList d.data.toList) (fval m.data.toList c.data.toList) = q := ⟨_, rfl⟩
   obtain ⟨T1, hT1⟩ : ∃ T, frac.wtxt (((· + ·) : Rat → Rat → Rat) (fval n.data.toList d.data.toList) (fval m.data.toList c.data.toList)).num = T := ⟨_, rfl⟩
   obtain ⟨T2, hT2⟩ : ∃ T, num (((· + ·) : Rat → Rat → Rat) (fval n.data.toList d.data.toList) (fval m.data.toList c.data.toList)).den = T := ⟨_, rfl⟩
   rw [hT1, hT2]
   have HTT := qH (qA hT1 hT2)
   clear hT1 hT2 hs hq
   go_wp2_with ((with_reducible refine wpList_store_row rfl 46 _ _ rfl (w.heap.size + 1 + 1) #[.string T1, .string T2] ?_ ?_ 46 _ H3.out.1 2 ?_ ?_ ?_ ?_ ?_); (next => rfl); (next => rfl); (next => kernel_rfl); (next => rfl); (next => rfl); (next => rfl))
   refine bodyPost_ret (v := .tuple #[.agg #[.string T1, .string T2], .int .i64 0]) (results_row2 rfl _ _ (w.heap.size + 1 + 1) 46 _ _ rfl (setRow_heap _ _ _ _ _ _ H3.out.1) Tryz.underlying46 rfl 2 (by kernel_rfl) rfl _ rfl) rfl ⟨Or.inl ⟨HF.out, Or.inl ⟨HS.out, ?_⟩⟩, below_setRow H3.out.2 (by omega) _⟩
   unfold fstr
   rw [HTT.out.1, HTT.out.2]
  ·have HS := qH hs
   clear hs
   go_wp2_with ((with_reducible refine wpList_store_row rfl 46 _ _ rfl (w.heap.size + 1 + 1) #[.string ⟨#[]⟩, .string ⟨#[]⟩] ?_ ?_ 46 _ H3.out.1 2 ?_ ?_ ?_ ?_ ?_); (next => rfl); (next => rfl); (next => kernel_rfl); (next => rfl); (next => rfl); (next => rfl))
   exact bodyPost_ret (v := .tuple #[.agg #[.string ⟨#[]⟩, .string ⟨#[]⟩], .int .i64 6]) (results_row2 rfl _ _ (w.heap.size + 1 + 1) 46 _ _ rfl (setRow_heap _ _ _ _ _ _ H3.out.1) Tryz.underlying46 rfl 2 (by kernel_rfl) rfl _ rfl) rfl ⟨Or.inl ⟨HF.out, Or.inr ⟨HS.out, rfl⟩⟩, below_setRow H3.out.2 (by omega) _⟩
 ·have HF := qH hf
  have HRS := qH (fun W => fresult_err none 0 0 false none 0 0 W)
  clear hf
  go_wp2_with fail
  refine (HRS.out _).mono ?_
  rintro e w3 ⟨rfl, hb⟩
  have H3 := qH (qA ((hb.block _ (qG H2.out.1).1).trans H2.out.1) (H2.out.2.trans (hb.mono H2.out.2.size)))
  clear hb
  go_wp2_with ((with_reducible refine wpList_store_row rfl 46 _ _ rfl (w.heap.size + 1 + 1) #[.string ⟨#[]⟩, .string ⟨#[]⟩] ?_ ?_ 46 _ H3.out.1 2 ?_ ?_ ?_ ?_ ?_); (next => rfl); (next => rfl); (next => kernel_rfl); (next => rfl); (next => rfl); (next => rfl))
  exact bodyPost_ret (v := .tuple #[.agg #[.string ⟨#[]⟩, .string ⟨#[]⟩], .int .i64 20]) (results_row2 rfl _ _ (w.heap.size + 1 + 1) 46 _ _ rfl (setRow_heap _ _ _ _ _ _ H3.out.1) Tryz.underlying46 rfl 2 (by kernel_rfl) rfl _ rfl) rfl ⟨Or.inr ⟨HF.out, rfl⟩, below_setRow H3.out.2 (by omega) _⟩
set_option maxRecDepth 100000 in
set_option maxHeartbeats 1000000 in
theorem fmul_any (n d m c : ByteArray) (w : World) (hT : HasT w) :
  Calls Tryz.prog 42 #[.agg #[.string n, .string d], .agg #[.string m, .string c]] w fun e w' => FDoes w (· * ·) n.data.toList d.data.toList m.data.toList c.data.toList e w' := by
 have HT := qH hT
 have HA := qH (fun W => fapply_mul n d m c W)
 obtain ⟨W1, hW1⟩ : ∃ W1, W1 = ((w.alloc (.cells #[.string n, .string d] 46)).alloc (.cells #[.string m, .string c] 46)).alloc (.cells #[.string ⟨#[]⟩, .string ⟨#[]⟩] 46) := ⟨_, rfl⟩
 have hb1 : Below w.heap.size w W1 := hW1 ▸ balloc (balloc (balloc qB qN) qN) qN
 have hr1 : W1.heap[w.heap.size + 1 + 1]? = some (.cells #[.string ⟨#[]⟩, .string ⟨#[]⟩] 46 (0, 0)) := by rw [hW1]; exact qM _ _ _ (by simp)
 have HR := qH (qA hb1 hr1)
 clear hb1 hr1 hT
 go_enter Tryz.func42, Tryz.ntmps42
 go_wp2_with fail
 rw [← hW1]
 clear hW1
 refine (HA.out W1).mono ?_
 rintro e w2 ⟨⟨v, er, rfl, h⟩, hb⟩
 have H2 := qH (qA ((hb.block _ (qG HR.out.2).1).trans HR.out.2) (HR.out.1.trans (hb.mono HR.out.1.size)))
 clear hb
 rcases h with ⟨hf, rfl, hv⟩ | ⟨hf, rfl, rfl⟩
 ·have hres := fresult_ok _ (67 + 67) (by decide) (by decide) v w2 hv (hf.1.fit.mul hf.2.fit) (HT.out.below H2.out.2)
  have HF := qH hf
  have HRS := qH hres
  obtain ⟨a7, n7, c7, b7, d7, e7, f7, rfl⟩ := rat_shape hv
  clear hf hres hv
  go_wp2_with fail
  refine HRS.out.mono ?_
  rintro e w3 ⟨h, hb⟩
  have H3 := qH (qA ((hb.block _ (qG H2.out.1).1).trans H2.out.1) (H2.out.2.trans (hb.mono H2.out.2.size)))
  clear hb
  rcases h with ⟨hs, rfl⟩ | ⟨hs, rfl⟩
  ·unfold fstr
   have HS := qH hs
   obtain ⟨q, hq⟩ : ∃ q, ((· * ·) : Rat → Rat → Rat) (fval n.data.toList d.data.toList) (fval m.data.toList c.data.toList) = q := ⟨_, rfl⟩
   obtain ⟨T1, hT1⟩ : ∃ T, frac.wtxt (((· * ·) : Rat → Rat → Rat) (fval n.data.toList d.data.toList) (fval m.data.toList c.data.toList)).num = T := ⟨_, rfl⟩
   obtain ⟨T2, hT2⟩ : ∃ T, num (((· * ·) : Rat → Rat → Rat) (fval n.data.toList d.data.toList) (fval m.data.toList c.data.toList)).den = T := ⟨_, rfl⟩
   rw [hT1, hT2]
   have HTT := qH (qA hT1 hT2)
   clear hT1 hT2 hs hq
   go_wp2_with ((with_reducible refine wpList_store_row rfl 46 _ _ rfl (w.heap.size + 1 + 1) #[.string T1, .string T2] ?_ ?_ 46 _ H3.out.1 2 ?_ ?_ ?_ ?_ ?_); (next => rfl); (next => rfl); (next => kernel_rfl); (next => rfl); (next => rfl); (next => rfl))
   refine bodyPost_ret (v := .tuple #[.agg #[.string T1, .string T2], .int .i64 0]) (results_row2 rfl _ _ (w.heap.size + 1 + 1) 46 _ _ rfl (setRow_heap _ _ _ _ _ _ H3.out.1) Tryz.underlying46 rfl 2 (by kernel_rfl) rfl _ rfl) rfl ⟨Or.inl ⟨HF.out, Or.inl ⟨HS.out, ?_⟩⟩, below_setRow H3.out.2 (by omega) _⟩
   unfold fstr
   rw [HTT.out.1, HTT.out.2]
  ·have HS := qH hs
   clear hs
   go_wp2_with ((with_reducible refine wpList_store_row rfl 46 _ _ rfl (w.heap.size + 1 + 1) #[.string ⟨#[]⟩, .string ⟨#[]⟩] ?_ ?_ 46 _ H3.out.1 2 ?_ ?_ ?_ ?_ ?_); (next => rfl); (next => rfl); (next => kernel_rfl); (next => rfl); (next => rfl); (next => rfl))
   exact bodyPost_ret (v := .tuple #[.agg #[.string ⟨#[]⟩, .string ⟨#[]⟩], .int .i64 6]) (results_row2 rfl _ _ (w.heap.size + 1 + 1) 46 _ _ rfl (setRow_heap _ _ _ _ _ _ H3.out.1) Tryz.underlying46 rfl 2 (by kernel_rfl) rfl _ rfl) rfl ⟨Or.inl ⟨HF.out, Or.inr ⟨HS.out, rfl⟩⟩, below_setRow H3.out.2 (by omega) _⟩
 ·have HF := qH hf
  have HRS := qH (fun W => fresult_err none 0 0 false none 0 0 W)
  clear hf
  go_wp2_with fail
  refine (HRS.out _).mono ?_
  rintro e w3 ⟨rfl, hb⟩
  have H3 := qH (qA ((hb.block _ (qG H2.out.1).1).trans H2.out.1) (H2.out.2.trans (hb.mono H2.out.2.size)))
  clear hb
  go_wp2_with ((with_reducible refine wpList_store_row rfl 46 _ _ rfl (w.heap.size + 1 + 1) #[.string ⟨#[]⟩, .string ⟨#[]⟩] ?_ ?_ 46 _ H3.out.1 2 ?_ ?_ ?_ ?_ ?_); (next => rfl); (next => rfl); (next => kernel_rfl); (next => rfl); (next => rfl); (next => rfl))
  exact bodyPost_ret (v := .tuple #[.agg #[.string ⟨#[]⟩, .string ⟨#[]⟩], .int .i64 20]) (results_row2 rfl _ _ (w.heap.size + 1 + 1) 46 _ _ rfl (setRow_heap _ _ _ _ _ _ H3.out.1) Tryz.underlying46 rfl 2 (by kernel_rfl) rfl _ rfl) rfl ⟨Or.inr ⟨HF.out, rfl⟩, below_setRow H3.out.2 (by omega) _⟩
end Go.Proofs.YtfminfgabiipjaaGreatDoor
end
