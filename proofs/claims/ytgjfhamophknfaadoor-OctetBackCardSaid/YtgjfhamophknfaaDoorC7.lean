/- Plain laws of the statement OctetBack: what is written is read back. -/
import Derived.Test.YtgjfhamophknfaaDoorC6
namespace Go.Proofs.YtgjfhamophknfaaDoor
open Go.RowKit

theorem num_snoc (l : List Nat) (c : Nat) : ∀ k, k ≤ l.length → num (l ++ [c]) k = num l k
  | 0, _ => rfl
  | k+1, h => by
    simp only [num]
    rw [num_snoc l c k (by omega)]
    rw [List.getD_eq_getElem?_getD, List.getElem?_append_left (by omega), ← List.getD_eq_getElem?_getD]
theorem num_octs (n : Nat) : ∀ x, num (octs x n) n = x % 256 ^ n := by
  induction n with
  | zero => intro x; simp [num, Nat.mod_one]
  | succ n ih =>
    intro x
    simp only [octs, num]
    rw [num_snoc _ _ n (by rw [octs_length]; omega), ih]
    rw [List.getD_eq_getElem?_getD, List.getElem?_append_right (by rw [octs_length]; omega), octs_length, Nat.sub_self]
    show x / 256 % 256 ^ n * 256 + x % 256 = _
    rw [Nat.pow_succ', Nat.mod_mul, Nat.mul_comm (x / 256 % 256 ^ n)]; omega
theorem asc_txtN (l : List Nat) (h : ∀ c ∈ l, c < 256) : asc (txtN l).data.toList = l := by
  unfold asc txtN
  rw [List.map_map]
  conv => rhs; rw [← List.map_id l]
  refine List.map_congr_left fun c hc => ?_
  have := h c hc
  simp [UInt8.toNat_ofNat', Nat.mod_eq_of_lt this]
theorem txtN_size (l : List Nat) : (txtN l).size = l.length := by simp [txtN, ByteArray.size]
/-- A part that lies between others. -/
theorem mid (a s b : ByteArray) : (a ++ s ++ b).extract a.size (a.size + s.size) = s := by
  rw [ByteArray.extract_append, ByteArray.extract_append]
  rw [ByteArray.size_append]
  have e1 : a.extract a.size (a.size + s.size) = ByteArray.empty := by
    rw [← ByteArray.size_eq_zero_iff, ByteArray.size_extract]; omega
  have e2 : b.extract (a.size - (a.size + s.size)) (a.size + s.size - (a.size + s.size)) = ByteArray.empty := by
    rw [← ByteArray.size_eq_zero_iff, ByteArray.size_extract]; omega
  rw [e1, e2, Nat.sub_self, Nat.add_sub_cancel_left, ByteArray.extract_zero_size, ByteArray.append_empty, ByteArray.empty_append]
theorem mid_part (a s b : ByteArray) (h : (a ++ s ++ b).size ≤ 65536) : partS (a ++ s ++ b) a.size s.size = s ∧ partE (a ++ s ++ b) a.size s.size = 0 := by
  have hs : (a ++ s ++ b).size = a.size + s.size + b.size := by rw [ByteArray.size_append, ByteArray.size_append]
  exact ⟨by rw [partS_in _ _ _ h (by omega), mid], partE_in _ _ _ h (by omega)⟩
theorem mid_num (a b : ByteArray) (x n : Nat) (hx : x < 256 ^ n) (h : (a ++ txtN (octs x n) ++ b).size ≤ 65536) :
    numS (a ++ txtN (octs x n) ++ b) a.size n = x ∧ partE (a ++ txtN (octs x n) ++ b) a.size n = 0 := by
  have hl : (txtN (octs x n)).size = n := by rw [txtN_size, octs_length]
  obtain ⟨h1, h2⟩ := mid_part a (txtN (octs x n)) b h
  rw [hl] at h1 h2
  refine ⟨?_, h2⟩
  unfold numS
  rw [h2, if_pos rfl, h1, asc_txtN _ (octs_lt x n), num_octs, Nat.mod_eq_of_lt hx]
theorem index_none (u : List UInt8) (h : ∀ c ∈ u, c ≠ 0) : Lib.indexByte u 0 = -1 := by
  induction u with
  | nil => rfl
  | cons c u ih =>
    have hc : (c == 0) = false := by rw [beq_eq_false_iff_ne]; exact h c List.mem_cons_self
    rw [Lib.indexByte, hc, ih fun x hx => h x (List.mem_cons_of_mem _ hx)]
    rfl
theorem index_first (u r : List UInt8) (h : ∀ c ∈ u, c ≠ 0) : Lib.indexByte (u ++ 0 :: r) 0 = u.length := by
  induction u with
  | nil => rfl
  | cons c u ih =>
    have hc : (c == 0) = false := by rw [beq_eq_false_iff_ne]; exact h c List.mem_cons_self
    rw [List.cons_append, Lib.indexByte, hc, ih fun x hx => h x (List.mem_cons_of_mem _ hx)]
    have : (((u.length : Int)) == -1) = false := by rw [beq_eq_false_iff_ne]; omega
    rw [this]
    simp
theorem prn_nozero (u : ByteArray) (h : prn (asc u.data.toList) = true) : ∀ c ∈ u.data.toList, c ≠ 0 := by
  intro c hc h0
  subst h0
  unfold prn at h
  rw [List.all_eq_true] at h
  have := h 0 (by unfold asc; exact List.mem_map.2 ⟨0, hc, rfl⟩)
  exact absurd this (by decide)
theorem ba_ext {a b : ByteArray} (h : a.data.toList = b.data.toList) : a = b := by
  obtain ⟨⟨x⟩⟩ := a
  obtain ⟨⟨y⟩⟩ := b
  cases h; rfl
theorem cut_text (u : ByteArray) (m : Nat) (h : prn (asc u.data.toList) = true) : cutA (u ++ zb m) = u ∧ cutB (u ++ zb m) = zb (m - 1) := by
  have hn := prn_nozero u h
  have hd : (u ++ zb m).data.toList = u.data.toList ++ List.replicate m 0 := by rw [ByteArray.data_append, Array.toList_append]; rfl
  unfold cutA cutB Lib.cut
  rw [hd, Lib.index_one]
  cases m with
  | zero =>
    rw [List.replicate_zero, List.append_nil, index_none _ hn, if_neg (by decide)]
    exact ⟨rfl, rfl⟩
  | succ m =>
    rw [List.replicate_succ, index_first _ _ hn, if_pos (by omega)]
    refine ⟨ba_ext ?_, ba_ext ?_⟩
    · simp
    · simp only [Int.toNat_natCast, List.length_cons, List.length_nil, Nat.zero_add]
      show List.drop (u.data.toList.length + 1) (u.data.toList ++ 0 :: List.replicate m 0) = _
      rw [List.drop_append]
      simp [zb]
theorem okT_text (u : ByteArray) (m : Nat) (h : prn (asc u.data.toList) = true) : okT (u ++ zb m) = true := by
  obtain ⟨h1, h2⟩ := cut_text u m h
  unfold okT
  rw [h1, h2, h, trim0_zb]
  rfl
theorem mid_text (a u b : ByteArray) (m : Nat) (h : prn (asc u.data.toList) = true) (hs : (a ++ (u ++ zb m) ++ b).size ≤ 65536) :
    txS (a ++ (u ++ zb m) ++ b) a.size (u.size + m : Nat) = u ∧ txE (a ++ (u ++ zb m) ++ b) a.size (u.size + m : Nat) = 0 := by
  obtain ⟨h1, h2⟩ := mid_part a (u ++ zb m) b hs
  rw [show (u ++ zb m).size = u.size + m by rw [ByteArray.size_append, zb_size]] at h1 h2
  unfold txS txE
  rw [h1, h2, okT_text u m h, if_pos ⟨rfl, rfl⟩, if_pos rfl, if_pos rfl]
  exact ⟨(cut_text u m h).1, rfl⟩
theorem prs_contains (c : UInt8) (h : (prs 95).contains c = true) : 32 ≤ c.toNat ∧ c.toNat ≤ 126 := by
  rw [List.contains_iff_mem] at h
  unfold prs at h
  obtain ⟨i, hi, rfl⟩ := List.mem_map.1 h
  rw [List.mem_range] at hi
  rw [UInt8.toNat_ofNat']
  omega
theorem prs_has (c : UInt8) (h1 : 32 ≤ c.toNat) (h2 : c.toNat ≤ 126) : (prs 95).contains c = true := by
  rw [List.contains_iff_mem]
  unfold prs
  refine List.mem_map.2 ⟨c.toNat - 32, List.mem_range.2 (by omega), ?_⟩
  rw [show 32 + (c.toNat - 32) = c.toNat by omega]
  exact UInt8.ofNat_toNat
theorem bad_of (u : ByteArray) (h : prn (asc u.data.toList) = false) : Bad (prs 95) u := by
  unfold prn at h
  rw [List.all_eq_false] at h
  obtain ⟨x, hx, hn⟩ := h
  unfold asc at hx
  obtain ⟨c, hc, rfl⟩ := List.mem_map.1 hx
  refine ⟨c, hc, ?_⟩
  cases e : (prs 95).contains c with
  | false => rfl
  | true =>
    have := prs_contains c e
    simp only [Bool.and_eq_true, decide_eq_true_eq, not_and] at hn
    omega
theorem prs_ascii (j : Nat) (b : UInt8) (h : (prs 95)[j]? = some b) : b.toNat < 128 := by
  have := prs_contains b (List.contains_iff_mem.2 (List.mem_of_getElem? h))
  omega
end Go.Proofs.YtgjfhamophknfaaDoor
