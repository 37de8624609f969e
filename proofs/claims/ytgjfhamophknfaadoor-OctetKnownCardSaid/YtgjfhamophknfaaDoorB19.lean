/- Walks: Text; the closures of the statements. -/
import Derived.Test.YtgjfhamophknfaaDoorB18
namespace Go.Proofs.YtgjfhamophknfaaDoor
open Go.RowKit

theorem partS_upto (s : ByteArray) (a n : Int) : (partS s a n).size ≤ 65536 := by
  unfold partS
  split
  · rw [ByteArray.size_extract]; omega
  · show 0 ≤ 65536; omega
theorem size_of_list (l : List UInt8) : (⟨l.toArray⟩ : ByteArray).size = l.length := by simp [ByteArray.size]
theorem cutA_size (s : ByteArray) : (cutA s).size ≤ s.size := by
  have hs : s.size = s.data.toList.length := by rw [Array.length_toList]; rfl
  unfold cutA Lib.cut
  rw [size_of_list, hs]
  split
  · show (List.take _ _).length ≤ _; rw [List.length_take]; omega
  · exact Nat.le_refl _
theorem cutB_size (s : ByteArray) : (cutB s).size ≤ s.size := by
  have hs : s.size = s.data.toList.length := by rw [Array.length_toList]; rfl
  unfold cutB Lib.cut
  rw [size_of_list, hs]
  split
  · show (List.drop _ _).length ≤ _; rw [List.length_drop]; omega
  · exact Nat.zero_le _
theorem ne_lists {a b : ByteArray} (h : a ≠ b) : (a.toList == b.toList) = false := by
  rw [beq_eq_false_iff_ne, ByteArray.toList_eq, ByteArray.toList_eq]
  intro e
  apply h
  obtain ⟨⟨x⟩⟩ := a
  obtain ⟨⟨y⟩⟩ := b
  cases e; rfl
theorem ne_empty {a : ByteArray} (h : a ≠ ⟨#[]⟩) : a.toList.isEmpty = false := by
  have := ne_lists h
  rw [ByteArray.toList_eq, ByteArray.toList_eq] at this
  rw [ByteArray.toList_eq]
  cases e : a.data.toList with
  | nil => rw [e] at this; exact absurd this (by decide)
  | cons x l => rfl
theorem eq_lists (a b : ByteArray) : (a.toList == b.toList) = decide (a = b) := by
  by_cases h : a = b
  · subst h; simp
  · rw [ne_lists h, decide_eq_false h]
/-- What Text answers of a part: a text, then zero octets. -/
def okT (f : ByteArray) : Bool := prn (asc (cutA f).data.toList) && decide (trim0 (cutB f) = ⟨#[]⟩)
def txS (s : ByteArray) (a n : Int) : ByteArray := if partE s a n = 0 ∧ okT (partS s a n) = true then cutA (partS s a n) else ⟨#[]⟩
def txE (s : ByteArray) (a n : Int) : Int := if partE s a n = 0 then (if okT (partS s a n) = true then 0 else 5) else partE s a n

set_option maxRecDepth 100000 in
set_option maxHeartbeats 1000000 in
theorem text_any (s : ByteArray) (a n : Int) (w : World) :
    Calls Tryd.prog 33 #[.string s, .int .i64 a, .int .i64 n] w fun e w' => e = .returned (.tuple #[.string (txS s a n), .int .i64 (txE s a n)]) ∧ Below w.heap.size w w' := by
  have HP : Hid (∀ W : World, _) := fun (W : World) => part_any s a n W
  have hf : (partS s a n).size ≤ 65536 := partS_upto s a n
  unfold txS txE
  generalize partE s a n = pe at *
  generalize partS s a n = f at *
  have hA := cutA_size f
  have hB := cutB_size f
  have HC : Hid (∀ W : World, _) := fun (W : World) => cut_any f hf W
  by_cases h1 : pe = 0
  · subst h1
    rw [if_pos rfl]
    have HPl : Hid (∀ W : World, _) := fun (W : World) => plain_any (cutA f) (by omega) W
    have HT : Hid (∀ W : World, _) := fun (W : World) => trim0_any (cutB f) (by omega) W
    obtain ⟨o, ho⟩ : ∃ o, okT f = o := ⟨_, rfl⟩
    rw [ho]
    unfold okT at ho
    generalize cutA f = p at *
    generalize cutB f = q at *
    generalize cutC f = c at *
    generalize prn (asc p.data.toList) = g at *
    generalize trim0 q = z at *
    cases g with
    | false =>
      obtain rfl : false = o := by simpa using ho
      clear ho hf hA hB HT
      rw [if_neg (by decide), if_neg (by decide)]
      go_enter Tryd.func33, Tryd.ntmps33
      go_wp2_with fail
      refine (HP.out _).mono ?_
      rintro e w1 ⟨rfl, rfl⟩
      go_wp2_with fail
      refine (HC.out _).mono ?_
      rintro e w1 ⟨rfl, hb⟩
      have HB1 := Lib.hid hb
      clear hb
      go_wp2_with fail
      refine (HPl.out _).mono ?_
      rintro e w2 ⟨rfl, hb⟩
      have HB2 := Lib.hid (HB1.out.trans (hb.mono HB1.out.size))
      clear hb HB1
      go_wp2_with fail
      go_ret2
      exact ⟨rfl, HB2.out⟩
    | true =>
      by_cases hz : z = ⟨#[]⟩
      · obtain rfl : true = o := by simpa [hz] using ho
        clear ho hf hA hB
        rw [if_pos ⟨rfl, rfl⟩, if_pos rfl]
        subst hz
        go_enter Tryd.func33, Tryd.ntmps33
        go_wp2_with fail
        refine (HP.out _).mono ?_
        rintro e w1 ⟨rfl, rfl⟩
        go_wp2_with fail
        refine (HC.out _).mono ?_
        rintro e w1 ⟨rfl, hb⟩
        have HB1 := Lib.hid hb
        clear hb
        go_wp2_with fail
        refine (HPl.out _).mono ?_
        rintro e w2 ⟨rfl, hb⟩
        have HB2 := Lib.hid (HB1.out.trans (hb.mono HB1.out.size))
        clear hb HB1
        go_wp2_with fail
        refine (HT.out _).mono ?_
        rintro e w3 ⟨rfl, hb⟩
        have HB3 := Lib.hid (HB2.out.trans (hb.mono HB2.out.size))
        clear hb HB2
        go_wp2_with fail
        go_ret2
        exact ⟨rfl, HB3.out⟩
      · obtain rfl : false = o := by simpa [hz] using ho
        clear ho hf hA hB
        rw [if_neg (by decide), if_neg (by decide)]
        have hzb := ne_empty hz
        clear hz
        go_enter Tryd.func33, Tryd.ntmps33
        go_wp2_with fail
        refine (HP.out _).mono ?_
        rintro e w1 ⟨rfl, rfl⟩
        go_wp2_with fail
        refine (HC.out _).mono ?_
        rintro e w1 ⟨rfl, hb⟩
        have HB1 := Lib.hid hb
        clear hb
        go_wp2_with fail
        refine (HPl.out _).mono ?_
        rintro e w2 ⟨rfl, hb⟩
        have HB2 := Lib.hid (HB1.out.trans (hb.mono HB1.out.size))
        clear hb HB1
        go_wp2_with fail
        refine (HT.out _).mono ?_
        rintro e w3 ⟨rfl, hb⟩
        have HB3 := Lib.hid (HB2.out.trans (hb.mono HB2.out.size))
        clear hb HB2
        go_wp2_with fail
        go_ret2
        exact ⟨rfl, HB3.out⟩
  · have h1b : (pe == 0) = false := by rw [beq_eq_false_iff_ne]; exact h1
    rw [if_neg (fun h => h1 h.1), if_neg h1]
    clear h1 hf hA hB HC
    go_enter Tryd.func33, Tryd.ntmps33
    go_wp2_with fail
    refine (HP.out _).mono ?_
    rintro e w1 ⟨rfl, rfl⟩
    go_wp2_with fail
    go_ret2
    exact ⟨rfl, Below.refl _ _⟩

set_option maxRecDepth 100000 in
set_option maxHeartbeats 1000000 in
theorem says_any (n : Int) (w : World) :
    Calls Tryd.prog 11 #[.int .i64 n] w fun e w' => ∃ b, e = .returned (.func (.func 37) #[] #[.pointer (some ⟨b, 0, none⟩)]) ∧ Below w.heap.size w w' ∧ b < w'.heap.size ∧ w'.heap[b]? = some (.cells #[.int .i64 n] 3 (0, 0)) := by
  have J := Lib.hid ((Iv.start w).new #[.int .i64 n] 3)
  go_enter Tryd.func11, Tryd.ntmps11
  go_wp2_with fail
  go_ret
  exact ⟨_, rfl, J.out.below, J.out.lt 0 rfl, J.out.get 0 rfl⟩
set_option maxRecDepth 100000 in
set_option maxHeartbeats 1000000 in
theorem stops_any (n : Int) (w : World) :
    Calls Tryd.prog 30 #[.int .i64 n] w fun e w' => ∃ b, e = .returned (.func (.func 56) #[] #[.pointer (some ⟨b, 0, none⟩)]) ∧ Below w.heap.size w w' ∧ b < w'.heap.size ∧ w'.heap[b]? = some (.cells #[.int .i64 n] 23 (0, 0)) := by
  have J := Lib.hid ((Iv.start w).new #[.int .i64 n] 23)
  go_enter Tryd.func30, Tryd.ntmps30
  go_wp2_with fail
  go_ret
  exact ⟨_, rfl, J.out.below, J.out.lt 0 rfl, J.out.get 0 rfl⟩
set_option maxRecDepth 100000 in
set_option maxHeartbeats 1000000 in
theorem is_any (s : ByteArray) (w : World) :
    Calls Tryd.prog 9 #[.string s] w fun e w' => ∃ b, e = .returned (.func (.func 35) #[] #[.pointer (some ⟨b, 0, none⟩)]) ∧ Below w.heap.size w w' ∧ b < w'.heap.size ∧ w'.heap[b]? = some (.cells #[.string s] 9 (0, 0)) := by
  have J := Lib.hid ((Iv.start w).new #[.string s] 9)
  go_enter Tryd.func9, Tryd.ntmps9
  go_wp2_with fail
  go_ret
  exact ⟨_, rfl, J.out.below, J.out.lt 0 rfl, J.out.get 0 rfl⟩
set_option maxRecDepth 100000 in
set_option maxHeartbeats 1000000 in
theorem fails_any (n : Int) (w : World) :
    Calls Tryd.prog 32 #[.int .i64 n] w fun e w' => ∃ b, e = .returned (.func (.func 57) #[] #[.pointer (some ⟨b, 0, none⟩)]) ∧ Below w.heap.size w w' ∧ b < w'.heap.size ∧ w'.heap[b]? = some (.cells #[.int .i64 n] 23 (0, 0)) := by
  have J := Lib.hid ((Iv.start w).new #[.int .i64 n] 23)
  go_enter Tryd.func32, Tryd.ntmps32
  go_wp2_with fail
  go_ret
  exact ⟨_, rfl, J.out.below, J.out.lt 0 rfl, J.out.get 0 rfl⟩
/-- The closures' calls: the number or the octets are those that were wanted. -/
theorem says1 (x n : Int) (e : Int) (b : Nat) (w : World) (hb : w.heap[b]? = some (.cells #[.int .i64 n] 3 (0, 0))) :
    Calls Tryd.prog 37 #[.int .i64 x, .int .i64 e, .pointer (some ⟨b, 0, none⟩)] w fun r w' => r = .returned (.bool (decide (x = n) && decide (e = 0))) ∧ w' = w := by
  have hc : w.cell? ⟨b, 0, none⟩ = some (.int .i64 n) := cell_of_row _ _ _ _ _ _ hb
  by_cases h1 : x = n
  · subst h1
    by_cases h2 : e = 0
    · subst h2
      rw [show (decide (x = x) && decide ((0 : Int) = 0)) = true by simp]
      go_enter Tryd.func37, Tryd.ntmps37
      go_wp2_with fail
      go_ret
      exact ⟨rfl, rfl⟩
    · have h2b : (e == 0) = false := by rw [beq_eq_false_iff_ne]; exact h2
      rw [show (decide (x = x) && decide (e = 0)) = false by simp [h2]]
      go_enter Tryd.func37, Tryd.ntmps37
      go_wp2_with fail
      go_ret
      exact ⟨rfl, rfl⟩
  · have h1b : (x == n) = false := by rw [beq_eq_false_iff_ne]; exact h1
    rw [show (decide (x = n) && decide (e = 0)) = false by simp [h1]]
    go_enter Tryd.func37, Tryd.ntmps37
    go_wp2_with fail
    go_ret
    exact ⟨rfl, rfl⟩
set_option maxRecDepth 100000 in
set_option maxHeartbeats 1000000 in
theorem stops1 (x n : Int) (e : Int) (b : Nat) (w : World) (hb : w.heap[b]? = some (.cells #[.int .i64 n] 23 (0, 0))) :
    Calls Tryd.prog 56 #[.int .i64 x, .int .i64 e, .pointer (some ⟨b, 0, none⟩)] w fun r w' => r = .returned (.bool (decide (x = 0) && decide (e = n))) ∧ w' = w := by
  have hc : w.cell? ⟨b, 0, none⟩ = some (.int .i64 n) := cell_of_row _ _ _ _ _ _ hb
  by_cases h1 : x = 0
  · subst h1
    by_cases h2 : e = n
    · subst h2
      rw [show (decide ((0 : Int) = 0) && decide (e = e)) = true by simp]
      go_enter Tryd.func56, Tryd.ntmps56
      go_wp2_with fail
      go_ret
      exact ⟨rfl, rfl⟩
    · have h2b : (e == n) = false := by rw [beq_eq_false_iff_ne]; exact h2
      rw [show (decide ((0 : Int) = 0) && decide (e = n)) = false by simp [h2]]
      go_enter Tryd.func56, Tryd.ntmps56
      go_wp2_with fail
      go_ret
      exact ⟨rfl, rfl⟩
  · have h1b : (x == 0) = false := by rw [beq_eq_false_iff_ne]; exact h1
    rw [show (decide (x = 0) && decide (e = n)) = false by simp [h1]]
    go_enter Tryd.func56, Tryd.ntmps56
    go_wp2_with fail
    go_ret
    exact ⟨rfl, rfl⟩
set_option maxRecDepth 100000 in
set_option maxHeartbeats 1000000 in
theorem is1 (x n : ByteArray) (e : Int) (b : Nat) (w : World) (hb : w.heap[b]? = some (.cells #[.string n] 9 (0, 0))) :
    Calls Tryd.prog 35 #[.string x, .int .i64 e, .pointer (some ⟨b, 0, none⟩)] w fun r w' => r = .returned (.bool (decide (x = n) && decide (e = 0))) ∧ w' = w := by
  have hc : w.cell? ⟨b, 0, none⟩ = some (.string n) := cell_of_row _ _ _ _ _ _ hb
  by_cases h1 : x = n
  · subst h1
    by_cases h2 : e = 0
    · subst h2
      rw [show (decide (x = x) && decide ((0 : Int) = 0)) = true by simp]
      go_enter Tryd.func35, Tryd.ntmps35
      go_wp2_with fail
      go_ret
      exact ⟨rfl, rfl⟩
    · have h2b : (e == 0) = false := by rw [beq_eq_false_iff_ne]; exact h2
      rw [show (decide (x = x) && decide (e = 0)) = false by simp [h2]]
      go_enter Tryd.func35, Tryd.ntmps35
      go_wp2_with fail
      go_ret
      exact ⟨rfl, rfl⟩
  · have h1b := ne_lists h1
    rw [show (decide (x = n) && decide (e = 0)) = false by simp [h1]]
    go_enter Tryd.func35, Tryd.ntmps35
    go_wp2_with fail
    go_ret
    exact ⟨rfl, rfl⟩
set_option maxRecDepth 100000 in
set_option maxHeartbeats 1000000 in
theorem fails1 (x : ByteArray) (n : Int) (e : Int) (b : Nat) (w : World) (hb : w.heap[b]? = some (.cells #[.int .i64 n] 23 (0, 0))) :
    Calls Tryd.prog 57 #[.string x, .int .i64 e, .pointer (some ⟨b, 0, none⟩)] w fun r w' => r = .returned (.bool (decide (x = ⟨#[]⟩) && decide (e = n))) ∧ w' = w := by
  have hc : w.cell? ⟨b, 0, none⟩ = some (.int .i64 n) := cell_of_row _ _ _ _ _ _ hb
  by_cases h1 : x = ⟨#[]⟩
  · subst h1
    by_cases h2 : e = n
    · subst h2
      rw [show (decide ((⟨#[]⟩ : ByteArray) = ⟨#[]⟩) && decide (e = e)) = true by simp]
      go_enter Tryd.func57, Tryd.ntmps57
      go_wp2_with fail
      go_ret
      exact ⟨rfl, rfl⟩
    · have h2b : (e == n) = false := by rw [beq_eq_false_iff_ne]; exact h2
      rw [show (decide ((⟨#[]⟩ : ByteArray) = ⟨#[]⟩) && decide (e = n)) = false by simp [h2]]
      go_enter Tryd.func57, Tryd.ntmps57
      go_wp2_with fail
      go_ret
      exact ⟨rfl, rfl⟩
  · have h1b := ne_empty h1
    rw [show (decide (x = ⟨#[]⟩) && decide (e = n)) = false by simp [h1]]
    go_enter Tryd.func57, Tryd.ntmps57
    go_wp2_with fail
    go_ret
    exact ⟨rfl, rfl⟩
end Go.Proofs.YtgjfhamophknfaaDoor
