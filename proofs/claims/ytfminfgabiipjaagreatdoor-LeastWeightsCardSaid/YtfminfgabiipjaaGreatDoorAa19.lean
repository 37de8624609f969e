/- Aa, part 19: Fr6 Fr7 Fr8 Fr9 -/
import Derived.Test.YtfminfgabiipjaaGreatDoorAa0
import Derived.Test.YtfminfgabiipjaaGreatDoorAa18
set_option maxRecDepth 100000
set_option maxHeartbeats 16000000
namespace Go.Proofs.YtfminfgabiipjaaGreatDoor
open Go.RowKit
def FCmps (w : World) (n d m c : List UInt8) (e : Ending) (w' : World) : Prop :=
 ((FOk n d ∧ FOk m c) ∧ e = .returned (.tuple #[.int .i64 (cmp3 ((fval n d).num * ((fval m c).den : Int) + -((fval m c).num * ((fval n d).den : Int))) 0), .int .i64 0]) ∨
  ¬ (FOk n d ∧ FOk m c) ∧ e = .returned (.tuple #[.int .i64 0, .int .i64 20])) ∧ Below w.heap.size w w'
def qjP (w : World) (op : Rat → Rat → Rat) (n d m c : List UInt8) (e : Ending) (w' : World) : Prop :=
 (∃ v er, e = .returned (.tuple #[v, .int .i64 er]) ∧ ((FOk n d ∧ FOk m c) ∧ er = 0 ∧ RatV w' v (op (fval n d) (fval m c)) ∨ ¬ (FOk n d ∧ FOk m c) ∧ er = 20 ∧ v = .agg #[.slice none 0 0, .bool false, .slice none 0 0])) ∧ Below w.heap.size w w'
def FDoes (w : World) (op : Rat → Rat → Rat) (n d m c : List UInt8) (e : Ending) (w' : World) : Prop :=
 ((FOk n d ∧ FOk m c) ∧ (Short (op (fval n d) (fval m c)) ∧ e = .returned (.tuple #[fstr (op (fval n d) (fval m c)), .int .i64 0]) ∨ ¬ Short (op (fval n d) (fval m c)) ∧ e = .returned (.tuple #[.agg #[.string ⟨#[]⟩, .string ⟨#[]⟩], .int .i64 6])) ∨
  ¬ (FOk n d ∧ FOk m c) ∧ e = .returned (.tuple #[.agg #[.string ⟨#[]⟩, .string ⟨#[]⟩], .int .i64 20])) ∧ Below w.heap.size w w'
theorem qkF (n d m c : ByteArray) (w : World) :
  Calls Tryz.prog 100 #[.agg #[.string n, .string d], .agg #[.string m, .string c], .func (.func 101) #[] #[]] w fun e w' => qjP w (· + ·) n.data.toList d.data.toList m.data.toList c.data.toList e w' := by
 obtain ⟨W1, hW1⟩ : ∃ W1, W1 = ((w.alloc (.cells #[.string n, .string d] 46)).alloc (.cells #[.string m, .string c] 46)).alloc (.cells #[.slice none 0 0, .bool false, .slice none 0 0] 138) := ⟨_, rfl⟩
 have hb1 : Below w.heap.size w W1 := hW1 ▸ qb1 (qb1 (qb1 qB qN) qN) qN
 have hr0 : W1.heap[w.heap.size]? = some (.cells #[.string n, .string d] 46 (0, 0)) := by rw [hW1, qL _ _ _ (by simp only [qab]; omega), qL _ _ _ (by simp only [qab]; omega)]; exact qM _ _ _ rfl
 have hr1 : W1.heap[w.heap.size + 1]? = some (.cells #[.string m, .string c] 46 (0, 0)) := by rw [hW1, qL _ _ _ (by simp only [qab]; omega)]; exact qM _ _ _ (by simp)
 have hr2 : W1.heap[w.heap.size + 1 + 1]? = some (.cells #[.slice none 0 0, .bool false, .slice none 0 0] 138 (0, 0)) := by rw [hW1]; exact qM _ _ _ (by simp)
 have HR := qH (qA hb1 (qA hr0 (qA hr1 hr2)))
 clear hb1 hr0 hr1 hr2
 go_enter Tryz.func100, Tryz.ntmps100
 go_wp2_with fail
 rw [← hW1]
 clear hW1
 refine (qd0 n d W1).mono ?_
 rintro e w1 ⟨v1, ok1, rfl, hok1, hb1⟩
 obtain ⟨a0, n0, c0, b0, d0, e0, f0, rfl⟩ := qdr hok1
 have HO1 := qH hok1
 have k1 := cell_of_row w1 _ 0 _ _ _ ((hb1.block _ (qG HR.out.2.2.1).1).trans HR.out.2.2.1)
 have k2 := cell_of_row w1 _ 1 _ _ _ ((hb1.block _ (qG HR.out.2.2.1).1).trans HR.out.2.2.1)
 have q1 : w.heap.size + 1 < w1.heap.size := qak (qG HR.out.2.2.1).1 hb1.size
 have HB1 := qH hb1
 clear hb1 hok1
 go_wp2_with fail
 obtain ⟨V1, hV1⟩ : ∃ V1, V1 = w1.alloc (.cells #[.slice a0 n0 c0, .bool b0, .slice d0 e0 f0] 138) := ⟨_, rfl⟩
 rw [← hV1]
 have hv1 : V1.heap[w1.heap.size]? = some (.cells #[.slice a0 n0 c0, .bool b0, .slice d0 e0 f0] 138 (0, 0)) := by rw [hV1]; exact qM _ _ _ rfl
 have hbv1 : Below w1.heap.size w1 V1 := hV1 ▸ qb1 qB qN
 clear hV1 k1 k2
 refine (qd0 m c V1).mono ?_
 rintro e w2 ⟨v2, ok2, rfl, hok2, hb2⟩
 obtain ⟨a1, n1, c1, b1, d1, e1, f1, rfl⟩ := qdr hok2
 have HO2 := qH hok2
 have hr8 := (hb2.block _ (qG hv1).1).trans hv1
 have hb12 : Below w1.heap.size w1 w2 := hbv1.trans (hb2.mono hbv1.size)
 have HB2 := qH hb12
 have hbw : Below w.heap.size w w2 := HR.out.1.trans ((HB1.out.trans (hb12.mono HB1.out.size)).mono HR.out.1.size)
 obtain ⟨V2, hV2⟩ : ∃ V2, V2 = w2.alloc (.cells #[.slice a1 n1 c1, .bool b1, .slice d1 e1 f1] 138) := ⟨_, rfl⟩
 have hbv2 : Below w2.heap.size w2 V2 := hV2 ▸ qb1 qB qN
 have r8 := (hbv2.block _ (qG hr8).1).trans hr8
 have r9 : V2.heap[w2.heap.size]? = some (.cells #[.slice a1 n1 c1, .bool b1, .slice d1 e1 f1] 138 (0, 0)) := by rw [hV2]; exact qM _ _ _ rfl
 have HV2 := qH (qA r8 (qA r9 (qA (hbw.trans (hbv2.mono hbw.size)) hbv2)))
 have x0 := cell_of_row w2 _ 0 _ _ _ hr8
 have x1 := cell_of_row w2 _ 1 _ _ _ hr8
 have x2 := cell_of_row w2 _ 2 _ _ _ hr8
 have lt8 := (qG hr8).1
 have HVe := qH hV2
 clear hv1 hbv1 hb2 hok2 hr8 hb12 hbw hbv2 r8 r9 hV2
 have HO := qH (fun (h1 : FOk n.data.toList d.data.toList) (h2 : FOk m.data.toList c.data.toList) (hv : RatV V2 (.agg #[.slice a0 n0 c0, .bool b0, .slice d0 e0 f0]) (fval n.data.toList d.data.toList)) (hu : RatV V2 (.agg #[.slice a1 n1 c1, .bool b1, .slice d1 e1 f1]) (fval m.data.toList c.data.toList)) => radd_any _ _ 67 (by decide) _ _ V2 hv hu h1.fit h2.fit)
 have HRZ : Hid (V2.heap[w.heap.size + 1 + 1]? = some (.cells #[.slice none 0 0, .bool false, .slice none 0 0] 138 (0, 0))) := qH (by
  have h1 := (HB1.out.block _ (qG HR.out.2.2.2).1).trans HR.out.2.2.2
  have h2 := (HB2.out.block _ (qG h1).1).trans h1
  exact (HV2.out.2.2.2.block _ (qG h2).1).trans h2)
 rcases HO1.out with ⟨rfl, hf1, hv1⟩ | ⟨rfl, hf1, _⟩
 ·rcases HO2.out with ⟨rfl, hf2, hv2⟩ | ⟨rfl, hf2, _⟩
  ·have hc := HO.out hf1 hf2 ((hf1.at hv1).below (HB2.out.trans (HV2.out.2.2.2.mono HB2.out.size))) ((hf2.at hv2).below HV2.out.2.2.2)
   have HC := qH (qA hc (qA hf1 hf2))
   clear hf1 hf2 hv1 hv2 hc
   go_wp2_with fail
   rw [← HVe.out]
   refine HC.out.1.mono ?_
   rintro e w9 ⟨v9, rfl, hb9, hv9⟩
   obtain ⟨a7, n7, c7, b7, d7, e7, f7, rfl⟩ := qeu hv9
   have hr9 := (hb9.block _ (qG HRZ.out).1).trans HRZ.out
   have H9 := qH (qA hr9 (qA (HV2.out.2.2.1.trans (hb9.mono HV2.out.2.2.1.size)) (qgl (cs' := #[.slice a7 n7 c7, .bool b7, .slice d7 e7 f7]) hv9 hr9)))
   clear hb9 hv9 hr9
   go_wp2_with ((with_reducible refine wpList_store_row rfl 138 _ _ rfl (w.heap.size + 1 + 1) #[.slice a7 n7 c7, .bool b7, .slice d7 e7 f7] ?_ ?_ 138 _ H9.out.1 3 ?_ ?_ ?_ ?_ ?_); (next => rfl); (next => rfl); (next => kernel_rfl); (next => rfl); (next => rfl); (next => rfl))
   exact bodyPost_ret (v := .tuple #[.agg #[.slice a7 n7 c7, .bool b7, .slice d7 e7 f7], .int .i64 0]) (qb6 rfl _ _ (w.heap.size + 1 + 1) 138 #[.slice a7 n7 c7, .bool b7, .slice d7 e7 f7] _ rfl (setRow_heap _ _ _ _ _ _ H9.out.1) Tryz.underlying138 rfl 3 (by kernel_rfl) rfl _ rfl) rfl ⟨⟨_, _, rfl, qaA ⟨HC.out.2, rfl, H9.out.2.2⟩⟩, below_setRow H9.out.2.1 (by omega) _⟩
  ·have HN := qH (show ¬ (FOk n.data.toList d.data.toList ∧ FOk m.data.toList c.data.toList) from fun h => hf2 h.2)
   clear hf1 hf2 hv1
   have hrz : ((w2.alloc (.cells #[.slice a1 n1 c1, .bool b1, .slice d1 e1 f1] 138)).alloc (.cells #[.slice none 0 0, .bool false, .slice none 0 0] 138)).heap[w.heap.size + 1 + 1]? = some (.cells #[.slice none 0 0, .bool false, .slice none 0 0] 138 (0, 0)) := by
    rw [← HVe.out]; exact (qL _ _ _ (qG HRZ.out).1).trans HRZ.out
   have HRZ2 := qH hrz
   have HBZ := qH (show Below w.heap.size w ((w2.alloc (.cells #[.slice a1 n1 c1, .bool b1, .slice d1 e1 f1] 138)).alloc (.cells #[.slice none 0 0, .bool false, .slice none 0 0] 138)) from HVe.out ▸ (HV2.out.2.2.1.alloc HV2.out.2.2.1.size _))
   clear hrz
   go_wp2_with ((with_reducible refine wpList_store_row rfl 138 _ _ rfl (w.heap.size + 1 + 1) #[.slice none 0 0, .bool false, .slice none 0 0] ?_ ?_ 138 _ HRZ2.out 3 ?_ ?_ ?_ ?_ ?_); (next => rfl); (next => rfl); (next => kernel_rfl); (next => rfl); (next => rfl); (next => rfl))
   exact bodyPost_ret (v := .tuple #[.agg #[.slice none 0 0, .bool false, .slice none 0 0], .int .i64 20]) (qb6 rfl _ _ (w.heap.size + 1 + 1) 138 #[.slice none 0 0, .bool false, .slice none 0 0] _ rfl (setRow_heap _ _ _ _ _ _ HRZ2.out) Tryz.underlying138 rfl 3 (by kernel_rfl) rfl _ rfl) rfl ⟨⟨_, _, rfl, qas ⟨HN.out, rfl, rfl⟩⟩, below_setRow HBZ.out (by omega) _⟩
 ·have HN := qH (show ¬ (FOk n.data.toList d.data.toList ∧ FOk m.data.toList c.data.toList) from fun h => hf1 h.1)
  clear hf1
  have hrz : ((w2.alloc (.cells #[.slice a1 n1 c1, .bool b1, .slice d1 e1 f1] 138)).alloc (.cells #[.slice none 0 0, .bool false, .slice none 0 0] 138)).heap[w.heap.size + 1 + 1]? = some (.cells #[.slice none 0 0, .bool false, .slice none 0 0] 138 (0, 0)) := by
   rw [← HVe.out]; exact (qL _ _ _ (qG HRZ.out).1).trans HRZ.out
  have HRZ2 := qH hrz
  have HBZ := qH (show Below w.heap.size w ((w2.alloc (.cells #[.slice a1 n1 c1, .bool b1, .slice d1 e1 f1] 138)).alloc (.cells #[.slice none 0 0, .bool false, .slice none 0 0] 138)) from HVe.out ▸ (HV2.out.2.2.1.alloc HV2.out.2.2.1.size _))
  clear hrz
  go_wp2_with ((with_reducible refine wpList_store_row rfl 138 _ _ rfl (w.heap.size + 1 + 1) #[.slice none 0 0, .bool false, .slice none 0 0] ?_ ?_ 138 _ HRZ2.out 3 ?_ ?_ ?_ ?_ ?_); (next => rfl); (next => rfl); (next => kernel_rfl); (next => rfl); (next => rfl); (next => rfl))
  exact bodyPost_ret (v := .tuple #[.agg #[.slice none 0 0, .bool false, .slice none 0 0], .int .i64 20]) (qb6 rfl _ _ (w.heap.size + 1 + 1) 138 #[.slice none 0 0, .bool false, .slice none 0 0] _ rfl (setRow_heap _ _ _ _ _ _ HRZ2.out) Tryz.underlying138 rfl 3 (by kernel_rfl) rfl _ rfl) rfl ⟨⟨_, _, rfl, qas ⟨HN.out, rfl, rfl⟩⟩, below_setRow HBZ.out (by omega) _⟩
theorem qkH (n d m c : ByteArray) (w : World) :
  Calls Tryz.prog 100 #[.agg #[.string n, .string d], .agg #[.string m, .string c], .func (.func 102) #[] #[]] w fun e w' => qjP w (· * ·) n.data.toList d.data.toList m.data.toList c.data.toList e w' := by
 obtain ⟨W1, hW1⟩ : ∃ W1, W1 = ((w.alloc (.cells #[.string n, .string d] 46)).alloc (.cells #[.string m, .string c] 46)).alloc (.cells #[.slice none 0 0, .bool false, .slice none 0 0] 138) := ⟨_, rfl⟩
 have hb1 : Below w.heap.size w W1 := hW1 ▸ qb1 (qb1 (qb1 qB qN) qN) qN
 have hr0 : W1.heap[w.heap.size]? = some (.cells #[.string n, .string d] 46 (0, 0)) := by rw [hW1, qL _ _ _ (by simp only [qab]; omega), qL _ _ _ (by simp only [qab]; omega)]; exact qM _ _ _ rfl
 have hr1 : W1.heap[w.heap.size + 1]? = some (.cells #[.string m, .string c] 46 (0, 0)) := by rw [hW1, qL _ _ _ (by simp only [qab]; omega)]; exact qM _ _ _ (by simp)
 have hr2 : W1.heap[w.heap.size + 1 + 1]? = some (.cells #[.slice none 0 0, .bool false, .slice none 0 0] 138 (0, 0)) := by rw [hW1]; exact qM _ _ _ (by simp)
 have HR := qH (qA hb1 (qA hr0 (qA hr1 hr2)))
 clear hb1 hr0 hr1 hr2
 go_enter Tryz.func100, Tryz.ntmps100
 go_wp2_with fail
 rw [← hW1]
 clear hW1
 refine (qd0 n d W1).mono ?_
 rintro e w1 ⟨v1, ok1, rfl, hok1, hb1⟩
 obtain ⟨a0, n0, c0, b0, d0, e0, f0, rfl⟩ := qdr hok1
 have HO1 := qH hok1
 have k1 := cell_of_row w1 _ 0 _ _ _ ((hb1.block _ (qG HR.out.2.2.1).1).trans HR.out.2.2.1)
 have k2 := cell_of_row w1 _ 1 _ _ _ ((hb1.block _ (qG HR.out.2.2.1).1).trans HR.out.2.2.1)
 have q1 : w.heap.size + 1 < w1.heap.size := qak (qG HR.out.2.2.1).1 hb1.size
 have HB1 := qH hb1
 clear hb1 hok1
 go_wp2_with fail
 obtain ⟨V1, hV1⟩ : ∃ V1, V1 = w1.alloc (.cells #[.slice a0 n0 c0, .bool b0, .slice d0 e0 f0] 138) := ⟨_, rfl⟩
 rw [← hV1]
 have hv1 : V1.heap[w1.heap.size]? = some (.cells #[.slice a0 n0 c0, .bool b0, .slice d0 e0 f0] 138 (0, 0)) := by rw [hV1]; exact qM _ _ _ rfl
 have hbv1 : Below w1.heap.size w1 V1 := hV1 ▸ qb1 qB qN
 clear hV1 k1 k2
 refine (qd0 m c V1).mono ?_
 rintro e w2 ⟨v2, ok2, rfl, hok2, hb2⟩
 obtain ⟨a1, n1, c1, b1, d1, e1, f1, rfl⟩ := qdr hok2
 have HO2 := qH hok2
 have hr8 := (hb2.block _ (qG hv1).1).trans hv1
 have hb12 : Below w1.heap.size w1 w2 := hbv1.trans (hb2.mono hbv1.size)
 have HB2 := qH hb12
 have hbw : Below w.heap.size w w2 := HR.out.1.trans ((HB1.out.trans (hb12.mono HB1.out.size)).mono HR.out.1.size)
 obtain ⟨V2, hV2⟩ : ∃ V2, V2 = w2.alloc (.cells #[.slice a1 n1 c1, .bool b1, .slice d1 e1 f1] 138) := ⟨_, rfl⟩
 have hbv2 : Below w2.heap.size w2 V2 := hV2 ▸ qb1 qB qN
 have r8 := (hbv2.block _ (qG hr8).1).trans hr8
 have r9 : V2.heap[w2.heap.size]? = some (.cells #[.slice a1 n1 c1, .bool b1, .slice d1 e1 f1] 138 (0, 0)) := by rw [hV2]; exact qM _ _ _ rfl
 have HV2 := qH (qA r8 (qA r9 (qA (hbw.trans (hbv2.mono hbw.size)) hbv2)))
 have x0 := cell_of_row w2 _ 0 _ _ _ hr8
 have x1 := cell_of_row w2 _ 1 _ _ _ hr8
 have x2 := cell_of_row w2 _ 2 _ _ _ hr8
 have lt8 := (qG hr8).1
 have HVe := qH hV2
 clear hv1 hbv1 hb2 hok2 hr8 hb12 hbw hbv2 r8 r9 hV2
 have HO := qH (fun (h1 : FOk n.data.toList d.data.toList) (h2 : FOk m.data.toList c.data.toList) (hv : RatV V2 (.agg #[.slice a0 n0 c0, .bool b0, .slice d0 e0 f0]) (fval n.data.toList d.data.toList)) (hu : RatV V2 (.agg #[.slice a1 n1 c1, .bool b1, .slice d1 e1 f1]) (fval m.data.toList c.data.toList)) => rmul_any _ _ 67 (by decide) _ _ V2 hv hu h1.fit h2.fit)
 have HRZ : Hid (V2.heap[w.heap.size + 1 + 1]? = some (.cells #[.slice none 0 0, .bool false, .slice none 0 0] 138 (0, 0))) := qH (by
  have h1 := (HB1.out.block _ (qG HR.out.2.2.2).1).trans HR.out.2.2.2
  have h2 := (HB2.out.block _ (qG h1).1).trans h1
  exact (HV2.out.2.2.2.block _ (qG h2).1).trans h2)
 rcases HO1.out with ⟨rfl, hf1, hv1⟩ | ⟨rfl, hf1, _⟩
 ·rcases HO2.out with ⟨rfl, hf2, hv2⟩ | ⟨rfl, hf2, _⟩
  ·have hc := HO.out hf1 hf2 ((hf1.at hv1).below (HB2.out.trans (HV2.out.2.2.2.mono HB2.out.size))) ((hf2.at hv2).below HV2.out.2.2.2)
   have HC := qH (qA hc (qA hf1 hf2))
   clear hf1 hf2 hv1 hv2 hc
   go_wp2_with fail
   rw [← HVe.out]
   refine HC.out.1.mono ?_
   rintro e w9 ⟨v9, rfl, hb9, hv9⟩
   obtain ⟨a7, n7, c7, b7, d7, e7, f7, rfl⟩ := qeu hv9
   have hr9 := (hb9.block _ (qG HRZ.out).1).trans HRZ.out
   have H9 := qH (qA hr9 (qA (HV2.out.2.2.1.trans (hb9.mono HV2.out.2.2.1.size)) (qgl (cs' := #[.slice a7 n7 c7, .bool b7, .slice d7 e7 f7]) hv9 hr9)))
   clear hb9 hv9 hr9
   go_wp2_with ((with_reducible refine wpList_store_row rfl 138 _ _ rfl (w.heap.size + 1 + 1) #[.slice a7 n7 c7, .bool b7, .slice d7 e7 f7] ?_ ?_ 138 _ H9.out.1 3 ?_ ?_ ?_ ?_ ?_); (next => rfl); (next => rfl); (next => kernel_rfl); (next => rfl); (next => rfl); (next => rfl))
   exact bodyPost_ret (v := .tuple #[.agg #[.slice a7 n7 c7, .bool b7, .slice d7 e7 f7], .int .i64 0]) (qb6 rfl _ _ (w.heap.size + 1 + 1) 138 #[.slice a7 n7 c7, .bool b7, .slice d7 e7 f7] _ rfl (setRow_heap _ _ _ _ _ _ H9.out.1) Tryz.underlying138 rfl 3 (by kernel_rfl) rfl _ rfl) rfl ⟨⟨_, _, rfl, qaA ⟨HC.out.2, rfl, H9.out.2.2⟩⟩, below_setRow H9.out.2.1 (by omega) _⟩
  ·have HN := qH (show ¬ (FOk n.data.toList d.data.toList ∧ FOk m.data.toList c.data.toList) from fun h => hf2 h.2)
   clear hf1 hf2 hv1
   have hrz : ((w2.alloc (.cells #[.slice a1 n1 c1, .bool b1, .slice d1 e1 f1] 138)).alloc (.cells #[.slice none 0 0, .bool false, .slice none 0 0] 138)).heap[w.heap.size + 1 + 1]? = some (.cells #[.slice none 0 0, .bool false, .slice none 0 0] 138 (0, 0)) := by
    rw [← HVe.out]; exact (qL _ _ _ (qG HRZ.out).1).trans HRZ.out
   have HRZ2 := qH hrz
   have HBZ := qH (show Below w.heap.size w ((w2.alloc (.cells #[.slice a1 n1 c1, .bool b1, .slice d1 e1 f1] 138)).alloc (.cells #[.slice none 0 0, .bool false, .slice none 0 0] 138)) from HVe.out ▸ (HV2.out.2.2.1.alloc HV2.out.2.2.1.size _))
   clear hrz
   go_wp2_with ((with_reducible refine wpList_store_row rfl 138 _ _ rfl (w.heap.size + 1 + 1) #[.slice none 0 0, .bool false, .slice none 0 0] ?_ ?_ 138 _ HRZ2.out 3 ?_ ?_ ?_ ?_ ?_); (next => rfl); (next => rfl); (next => kernel_rfl); (next => rfl); (next => rfl); (next => rfl))
   exact bodyPost_ret (v := .tuple #[.agg #[.slice none 0 0, .bool false, .slice none 0 0], .int .i64 20]) (qb6 rfl _ _ (w.heap.size + 1 + 1) 138 #[.slice none 0 0, .bool false, .slice none 0 0] _ rfl (setRow_heap _ _ _ _ _ _ HRZ2.out) Tryz.underlying138 rfl 3 (by kernel_rfl) rfl _ rfl) rfl ⟨⟨_, _, rfl, qas ⟨HN.out, rfl, rfl⟩⟩, below_setRow HBZ.out (by omega) _⟩
 ·have HN := qH (show ¬ (FOk n.data.toList d.data.toList ∧ FOk m.data.toList c.data.toList) from fun h => hf1 h.1)
  clear hf1
  have hrz : ((w2.alloc (.cells #[.slice a1 n1 c1, .bool b1, .slice d1 e1 f1] 138)).alloc (.cells #[.slice none 0 0, .bool false, .slice none 0 0] 138)).heap[w.heap.size + 1 + 1]? = some (.cells #[.slice none 0 0, .bool false, .slice none 0 0] 138 (0, 0)) := by
   rw [← HVe.out]; exact (qL _ _ _ (qG HRZ.out).1).trans HRZ.out
  have HRZ2 := qH hrz
  have HBZ := qH (show Below w.heap.size w ((w2.alloc (.cells #[.slice a1 n1 c1, .bool b1, .slice d1 e1 f1] 138)).alloc (.cells #[.slice none 0 0, .bool false, .slice none 0 0] 138)) from HVe.out ▸ (HV2.out.2.2.1.alloc HV2.out.2.2.1.size _))
  clear hrz
  go_wp2_with ((with_reducible refine wpList_store_row rfl 138 _ _ rfl (w.heap.size + 1 + 1) #[.slice none 0 0, .bool false, .slice none 0 0] ?_ ?_ 138 _ HRZ2.out 3 ?_ ?_ ?_ ?_ ?_); (next => rfl); (next => rfl); (next => kernel_rfl); (next => rfl); (next => rfl); (next => rfl))
  exact bodyPost_ret (v := .tuple #[.agg #[.slice none 0 0, .bool false, .slice none 0 0], .int .i64 20]) (qb6 rfl _ _ (w.heap.size + 1 + 1) 138 #[.slice none 0 0, .bool false, .slice none 0 0] _ rfl (setRow_heap _ _ _ _ _ _ HRZ2.out) Tryz.underlying138 rfl 3 (by kernel_rfl) rfl _ rfl) rfl ⟨⟨_, _, rfl, qas ⟨HN.out, rfl, rfl⟩⟩, below_setRow HBZ.out (by omega) _⟩
theorem RFit.add {p q : Rat} {K : Nat} (hp : RFit p K) (hq : RFit q K) : RFit (p + q) (K + K + 1) := by
 have h1 : Fit (p.num * q.den + q.num * p.den).natAbs (K + K + 1) := by
  refine (Fit.add (x := (p.num * q.den).natAbs) (y := (q.num * p.den).natAbs) (K := K + K) ?_ ?_).le (Int.natAbs_add_le _ _)
  ·rw [qaC, qat]; exact hp.1.mul hq.2
  ·rw [qaC, qat]; exact hq.1.mul hp.2
 have h2 : Fit (p.den * q.den) (K + K + 1) := (hp.2.mul hq.2).mono (by omega)
 rw [Rat.add_def']
 have hne := Nat.mul_ne_zero p.den_nz q.den_nz
 constructor
 ·rw [Rat.num_mkRat, if_neg hne]
  refine h1.le ?_
  rw [Int.natAbs_ediv_of_dvd (Int.ofNat_dvd_left.2 (qbe _ _))]
  exact qaU _ _
 ·rw [Rat.den_mkRat, if_neg hne]
  exact h2.le (qaU _ _)
theorem RFit.mul {p q : Rat} {K : Nat} (hp : RFit p K) (hq : RFit q K) : RFit (p * q) (K + K) := by
 have h1 : Fit (p.num * q.num).natAbs (K + K) := by rw [qaC]; exact hp.1.mul hq.1
 have h2 : Fit (p.den * q.den) (K + K) := hp.2.mul hq.2
 rw [Rat.mul_def']
 have hne := Nat.mul_ne_zero p.den_nz q.den_nz
 constructor
 ·rw [Rat.num_mkRat, if_neg hne]
  refine h1.le ?_
  rw [Int.natAbs_ediv_of_dvd (Int.ofNat_dvd_left.2 (qbe _ _))]
  exact qaU _ _
 ·rw [Rat.den_mkRat, if_neg hne]
  exact h2.le (qaU _ _)
theorem FCmps.below {w W : World} {n d m c : List UInt8} {e : Ending} {w' : World} (hb : Below w.heap.size w W) (h : FCmps W n d m c e w') : FCmps w n d m c e w' := ⟨h.1, hb.trans (h.2.mono hb.size)⟩
theorem qg4 (a : Option Addr) (x c : Nat) (b : Bool) (d : Option Addr) (e0 f : Nat) (w : World) :
  Calls Tryz.prog 99 #[.agg #[.slice a x c, .bool b, .slice d e0 f], .int .i64 20] w fun e w' => e = .returned (.tuple #[.agg #[.string ⟨#[]⟩, .string ⟨#[]⟩], .int .i64 20]) ∧ Below w.heap.size w w' := by
 have HB : ∀ cs, Hid (Below w.heap.size w ((w.alloc (.cells #[.slice a x c, .bool b, .slice d e0 f] 138)).alloc (.cells cs 46))) := fun cs => qH (qb1 (qb1 qB qN) qN)
 go_enter Tryz.func99, Tryz.ntmps99
 go_wp2_with fail
 exact bodyPost_ret (v := .tuple #[.agg #[.string ⟨#[]⟩, .string ⟨#[]⟩], .int .i64 20]) (qb6 rfl _ _ (w.heap.size + 1) 46 #[.string ⟨#[]⟩, .string ⟨#[]⟩] _ rfl (qM _ _ _ (by simp)) Tryz.underlying46 rfl 2 (by kernel_rfl) rfl _ rfl) rfl ⟨rfl, (HB _).out⟩
theorem qhF (q : Rat) (K : Nat) (hK0 : 0 < K) (hK : K ≤ 34359738368) (v : Value) (w : World) (hv : RatV w v q) (hq : RFit q K) (hT : HasT w) :
  Calls Tryz.prog 99 #[v, .int .i64 0] w fun e w' => qfq w q e w' := by
 obtain ⟨a, x, c, b, d, e0, f, rfl⟩ := qeu hv
 obtain ⟨W1, hW1⟩ : ∃ W1, W1 = (w.alloc (.cells #[.slice a x c, .bool b, .slice d e0 f] 138)).alloc (.cells #[.string ⟨#[]⟩, .string ⟨#[]⟩] 46) := ⟨_, rfl⟩
 have hb1 : Below w.heap.size w W1 := hW1 ▸ qb1 (qb1 qB qN) qN
 have hr1 : W1.heap[w.heap.size + 1]? = some (.cells #[.string ⟨#[]⟩, .string ⟨#[]⟩] 46 (0, 0)) := by rw [hW1]; exact qM _ _ _ (by simp)
 have HW := qH (qk5 q K hK0 hK _ W1 (hv.below hb1) hq (hT.below hb1))
 have HR := qH (qA hb1 hr1)
 clear hv hq hT hb1 hr1 hK
 go_enter Tryz.func99, Tryz.ntmps99
 go_wp2_with fail
 rw [← hW1]
 clear hW1
 refine HW.out.mono ?_
 rintro e w2 ⟨h, hb⟩
 have H2 := qH (qA ((hb.block _ (qG HR.out.2).1).trans HR.out.2) (HR.out.1.trans (hb.mono HR.out.1.size)))
 clear hb
 rcases h with ⟨hs, rfl⟩ | ⟨hs, rfl⟩
 ·unfold fstr
  have HS := qH hs
  obtain ⟨T1, hT1⟩ : ∃ T, frac.wtxt q.num = T := ⟨_, rfl⟩
  obtain ⟨T2, hT2⟩ : ∃ T, num q.den = T := ⟨_, rfl⟩
  rw [hT1, hT2]
  have HTT := qH (qA hT1 hT2)
  clear hT1 hT2 hs
  go_wp2_with ((with_reducible refine wpList_store_row rfl 46 _ _ rfl (w.heap.size + 1) #[.string T1, .string T2] ?_ ?_ 46 _ H2.out.1 2 ?_ ?_ ?_ ?_ ?_); (next => rfl); (next => rfl); (next => kernel_rfl); (next => rfl); (next => rfl); (next => rfl))
  refine bodyPost_ret (v := .tuple #[.agg #[.string T1, .string T2], .int .i64 0]) (qb6 rfl _ _ (w.heap.size + 1) 46 _ _ rfl (setRow_heap _ _ _ _ _ _ H2.out.1) Tryz.underlying46 rfl 2 (by kernel_rfl) rfl _ rfl) rfl ⟨qaA ⟨HS.out, ?_⟩, below_setRow H2.out.2 (by omega) _⟩
  unfold fstr
  rw [HTT.out.1, HTT.out.2]
 ·have HS := qH hs
  clear hs
  go_wp2_with ((with_reducible refine wpList_store_row rfl 46 _ _ rfl (w.heap.size + 1) #[.string ⟨#[]⟩, .string ⟨#[]⟩] ?_ ?_ 46 _ H2.out.1 2 ?_ ?_ ?_ ?_ ?_); (next => rfl); (next => rfl); (next => kernel_rfl); (next => rfl); (next => rfl); (next => rfl))
  exact bodyPost_ret (v := .tuple #[.agg #[.string ⟨#[]⟩, .string ⟨#[]⟩], .int .i64 6]) (qb6 rfl _ _ (w.heap.size + 1) 46 _ _ rfl (setRow_heap _ _ _ _ _ _ H2.out.1) Tryz.underlying46 rfl 2 (by kernel_rfl) rfl _ rfl) rfl ⟨qas ⟨HS.out, rfl⟩, below_setRow H2.out.2 (by omega) _⟩
theorem fadd_any (n d m c : ByteArray) (w : World) (hT : HasT w) :
  Calls Tryz.prog 41 #[.agg #[.string n, .string d], .agg #[.string m, .string c]] w fun e w' => FDoes w (· + ·) n.data.toList d.data.toList m.data.toList c.data.toList e w' := by
 have HT := qH hT
 have HA := qH (fun W => qkF n d m c W)
 obtain ⟨W1, hW1⟩ : ∃ W1, W1 = ((w.alloc (.cells #[.string n, .string d] 46)).alloc (.cells #[.string m, .string c] 46)).alloc (.cells #[.string ⟨#[]⟩, .string ⟨#[]⟩] 46) := ⟨_, rfl⟩
 have hb1 : Below w.heap.size w W1 := hW1 ▸ qb1 (qb1 (qb1 qB qN) qN) qN
 have hr1 : W1.heap[w.heap.size + 1 + 1]? = some (.cells #[.string ⟨#[]⟩, .string ⟨#[]⟩] 46 (0, 0)) := by rw [hW1]; exact qM _ _ _ (by simp)
 have HR := qH (qA hb1 hr1)
 clear hb1 hr1 hT
 go_enter Tryz.func41, Tryz.ntmps41
 go_wp2_with fail
 rw [← hW1]
 clear hW1
 refine (HA.out W1).mono ?_
 rintro e w2 ⟨⟨v, er, rfl, h⟩, hb⟩
 have H2 := qH (qA ((hb.block _ (qG HR.out.2).1).trans HR.out.2) (HR.out.1.trans (hb.mono HR.out.1.size)))
 clear hb
 rcases h with ⟨hf, rfl, hv⟩ | ⟨hf, rfl, rfl⟩
 ·have hres := qhF _ (67 + 67 + 1) (by decide) (by decide) v w2 hv (hf.1.fit.add hf.2.fit) (HT.out.below H2.out.2)
  have HF := qH hf
  have HRS := qH hres
  obtain ⟨a7, n7, c7, b7, d7, e7, f7, rfl⟩ := qeu hv
  clear hf hres hv
  go_wp2_with fail
  refine HRS.out.mono ?_
  rintro e w3 ⟨h, hb⟩
  have H3 := qH (qA ((hb.block _ (qG H2.out.1).1).trans H2.out.1) (H2.out.2.trans (hb.mono H2.out.2.size)))
  clear hb
  rcases h with ⟨hs, rfl⟩ | ⟨hs, rfl⟩
  ·unfold fstr
   have HS := qH hs
   obtain ⟨q, hq⟩ : ∃ q, ((· + ·) : Rat → Rat → Rat) (fval n.data.toList d.data.toList) (fval m.data.toList c.data.toList) = q := ⟨_, rfl⟩
   obtain ⟨T1, hT1⟩ : ∃ T, frac.wtxt (((· + ·) : Rat → Rat → Rat) (fval n.data.toList d.data.toList) (fval m.data.toList c.data.toList)).num = T := ⟨_, rfl⟩
   obtain ⟨T2, hT2⟩ : ∃ T, num (((· + ·) : Rat → Rat → Rat) (fval n.data.toList d.data.toList) (fval m.data.toList c.data.toList)).den = T := ⟨_, rfl⟩
   rw [hT1, hT2]
   have HTT := qH (qA hT1 hT2)
   clear hT1 hT2 hs hq
   go_wp2_with ((with_reducible refine wpList_store_row rfl 46 _ _ rfl (w.heap.size + 1 + 1) #[.string T1, .string T2] ?_ ?_ 46 _ H3.out.1 2 ?_ ?_ ?_ ?_ ?_); (next => rfl); (next => rfl); (next => kernel_rfl); (next => rfl); (next => rfl); (next => rfl))
   refine bodyPost_ret (v := .tuple #[.agg #[.string T1, .string T2], .int .i64 0]) (qb6 rfl _ _ (w.heap.size + 1 + 1) 46 _ _ rfl (setRow_heap _ _ _ _ _ _ H3.out.1) Tryz.underlying46 rfl 2 (by kernel_rfl) rfl _ rfl) rfl ⟨qaA ⟨HF.out, qaA ⟨HS.out, ?_⟩⟩, below_setRow H3.out.2 (by omega) _⟩
   unfold fstr
   rw [HTT.out.1, HTT.out.2]
  ·have HS := qH hs
   clear hs
   go_wp2_with ((with_reducible refine wpList_store_row rfl 46 _ _ rfl (w.heap.size + 1 + 1) #[.string ⟨#[]⟩, .string ⟨#[]⟩] ?_ ?_ 46 _ H3.out.1 2 ?_ ?_ ?_ ?_ ?_); (next => rfl); (next => rfl); (next => kernel_rfl); (next => rfl); (next => rfl); (next => rfl))
   exact bodyPost_ret (v := .tuple #[.agg #[.string ⟨#[]⟩, .string ⟨#[]⟩], .int .i64 6]) (qb6 rfl _ _ (w.heap.size + 1 + 1) 46 _ _ rfl (setRow_heap _ _ _ _ _ _ H3.out.1) Tryz.underlying46 rfl 2 (by kernel_rfl) rfl _ rfl) rfl ⟨qaA ⟨HF.out, qas ⟨HS.out, rfl⟩⟩, below_setRow H3.out.2 (by omega) _⟩
 ·have HF := qH hf
  have HRS := qH (fun W => qg4 none 0 0 false none 0 0 W)
  clear hf
  go_wp2_with fail
  refine (HRS.out _).mono ?_
  rintro e w3 ⟨rfl, hb⟩
  have H3 := qH (qA ((hb.block _ (qG H2.out.1).1).trans H2.out.1) (H2.out.2.trans (hb.mono H2.out.2.size)))
  clear hb
  go_wp2_with ((with_reducible refine wpList_store_row rfl 46 _ _ rfl (w.heap.size + 1 + 1) #[.string ⟨#[]⟩, .string ⟨#[]⟩] ?_ ?_ 46 _ H3.out.1 2 ?_ ?_ ?_ ?_ ?_); (next => rfl); (next => rfl); (next => kernel_rfl); (next => rfl); (next => rfl); (next => rfl))
  exact bodyPost_ret (v := .tuple #[.agg #[.string ⟨#[]⟩, .string ⟨#[]⟩], .int .i64 20]) (qb6 rfl _ _ (w.heap.size + 1 + 1) 46 _ _ rfl (setRow_heap _ _ _ _ _ _ H3.out.1) Tryz.underlying46 rfl 2 (by kernel_rfl) rfl _ rfl) rfl ⟨qas ⟨HF.out, rfl⟩, below_setRow H3.out.2 (by omega) _⟩
theorem fmul_any (n d m c : ByteArray) (w : World) (hT : HasT w) :
  Calls Tryz.prog 42 #[.agg #[.string n, .string d], .agg #[.string m, .string c]] w fun e w' => FDoes w (· * ·) n.data.toList d.data.toList m.data.toList c.data.toList e w' := by
 have HT := qH hT
 have HA := qH (fun W => qkH n d m c W)
 obtain ⟨W1, hW1⟩ : ∃ W1, W1 = ((w.alloc (.cells #[.string n, .string d] 46)).alloc (.cells #[.string m, .string c] 46)).alloc (.cells #[.string ⟨#[]⟩, .string ⟨#[]⟩] 46) := ⟨_, rfl⟩
 have hb1 : Below w.heap.size w W1 := hW1 ▸ qb1 (qb1 (qb1 qB qN) qN) qN
 have hr1 : W1.heap[w.heap.size + 1 + 1]? = some (.cells #[.string ⟨#[]⟩, .string ⟨#[]⟩] 46 (0, 0)) := by rw [hW1]; exact qM _ _ _ (by simp)
 have HR := qH (qA hb1 hr1)
 clear hb1 hr1 hT
 go_enter Tryz.func42, Tryz.ntmps42
 go_wp2_with fail
 rw [← hW1]
 clear hW1
 refine (HA.out W1).mono ?_
 rintro e w2 ⟨⟨v, er, rfl, h⟩, hb⟩
 have H2 := qH (qA ((hb.block _ (qG HR.out.2).1).trans HR.out.2) (HR.out.1.trans (hb.mono HR.out.1.size)))
 clear hb
 rcases h with ⟨hf, rfl, hv⟩ | ⟨hf, rfl, rfl⟩
 ·have hres := qhF _ (67 + 67) (by decide) (by decide) v w2 hv (hf.1.fit.mul hf.2.fit) (HT.out.below H2.out.2)
  have HF := qH hf
  have HRS := qH hres
  obtain ⟨a7, n7, c7, b7, d7, e7, f7, rfl⟩ := qeu hv
  clear hf hres hv
  go_wp2_with fail
  refine HRS.out.mono ?_
  rintro e w3 ⟨h, hb⟩
  have H3 := qH (qA ((hb.block _ (qG H2.out.1).1).trans H2.out.1) (H2.out.2.trans (hb.mono H2.out.2.size)))
  clear hb
  rcases h with ⟨hs, rfl⟩ | ⟨hs, rfl⟩
  ·unfold fstr
   have HS := qH hs
   obtain ⟨q, hq⟩ : ∃ q, ((· * ·) : Rat → Rat → Rat) (fval n.data.toList d.data.toList) (fval m.data.toList c.data.toList) = q := ⟨_, rfl⟩
   obtain ⟨T1, hT1⟩ : ∃ T, frac.wtxt (((· * ·) : Rat → Rat → Rat) (fval n.data.toList d.data.toList) (fval m.data.toList c.data.toList)).num = T := ⟨_, rfl⟩
   obtain ⟨T2, hT2⟩ : ∃ T, num (((· * ·) : Rat → Rat → Rat) (fval n.data.toList d.data.toList) (fval m.data.toList c.data.toList)).den = T := ⟨_, rfl⟩
   rw [hT1, hT2]
   have HTT := qH (qA hT1 hT2)
   clear hT1 hT2 hs hq
   go_wp2_with ((with_reducible refine wpList_store_row rfl 46 _ _ rfl (w.heap.size + 1 + 1) #[.string T1, .string T2] ?_ ?_ 46 _ H3.out.1 2 ?_ ?_ ?_ ?_ ?_); (next => rfl); (next => rfl); (next => kernel_rfl); (next => rfl); (next => rfl); (next => rfl))
   refine bodyPost_ret (v := .tuple #[.agg #[.string T1, .string T2], .int .i64 0]) (qb6 rfl _ _ (w.heap.size + 1 + 1) 46 _ _ rfl (setRow_heap _ _ _ _ _ _ H3.out.1) Tryz.underlying46 rfl 2 (by kernel_rfl) rfl _ rfl) rfl ⟨qaA ⟨HF.out, qaA ⟨HS.out, ?_⟩⟩, below_setRow H3.out.2 (by omega) _⟩
   unfold fstr
   rw [HTT.out.1, HTT.out.2]
  ·have HS := qH hs
   clear hs
   go_wp2_with ((with_reducible refine wpList_store_row rfl 46 _ _ rfl (w.heap.size + 1 + 1) #[.string ⟨#[]⟩, .string ⟨#[]⟩] ?_ ?_ 46 _ H3.out.1 2 ?_ ?_ ?_ ?_ ?_); (next => rfl); (next => rfl); (next => kernel_rfl); (next => rfl); (next => rfl); (next => rfl))
   exact bodyPost_ret (v := .tuple #[.agg #[.string ⟨#[]⟩, .string ⟨#[]⟩], .int .i64 6]) (qb6 rfl _ _ (w.heap.size + 1 + 1) 46 _ _ rfl (setRow_heap _ _ _ _ _ _ H3.out.1) Tryz.underlying46 rfl 2 (by kernel_rfl) rfl _ rfl) rfl ⟨qaA ⟨HF.out, qas ⟨HS.out, rfl⟩⟩, below_setRow H3.out.2 (by omega) _⟩
 ·have HF := qH hf
  have HRS := qH (fun W => qg4 none 0 0 false none 0 0 W)
  clear hf
  go_wp2_with fail
  refine (HRS.out _).mono ?_
  rintro e w3 ⟨rfl, hb⟩
  have H3 := qH (qA ((hb.block _ (qG H2.out.1).1).trans H2.out.1) (H2.out.2.trans (hb.mono H2.out.2.size)))
  clear hb
  go_wp2_with ((with_reducible refine wpList_store_row rfl 46 _ _ rfl (w.heap.size + 1 + 1) #[.string ⟨#[]⟩, .string ⟨#[]⟩] ?_ ?_ 46 _ H3.out.1 2 ?_ ?_ ?_ ?_ ?_); (next => rfl); (next => rfl); (next => kernel_rfl); (next => rfl); (next => rfl); (next => rfl))
  exact bodyPost_ret (v := .tuple #[.agg #[.string ⟨#[]⟩, .string ⟨#[]⟩], .int .i64 20]) (qb6 rfl _ _ (w.heap.size + 1 + 1) 46 _ _ rfl (setRow_heap _ _ _ _ _ _ H3.out.1) Tryz.underlying46 rfl 2 (by kernel_rfl) rfl _ rfl) rfl ⟨qas ⟨HF.out, rfl⟩, below_setRow H3.out.2 (by omega) _⟩
end Go.Proofs.YtfminfgabiipjaaGreatDoor
