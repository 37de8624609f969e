/- Plain facts and small contracts that DigestExtends wants: octets behind the padded ones. -/
import Derived.Test.YtfhddcjepgjfnaaDoorIv
import Derived.Test.YtfhddcjepgjfnaaDoorA33
namespace Go.Proofs.YtfhddcjepgjfnaaDoor
open Go.RowKit Md

theorem ended_length (a : List Nat) (n : Nat) : (ended a n).length % 64 = 0 ∧ (ended a n).length ≤ a.length + 72 ∧ a.length ≤ (ended a n).length := by
  have h8 : (oct8 (8 * n)).length = 8 := by simp [oct8]
  have : (ended a n).length = a.length + (1 + (119 - a.length % 64) % 64) + 8 := by
    rw [ended, List.length_append, List.length_append, List.length_cons, List.length_replicate, h8]; omega
  rw [this]; omega
theorem ended_behind (x y : List Nat) (N : Nat) (hx : x.length % 64 = 0) : ended (x ++ y) N = x ++ ended y N := by
  unfold ended
  rw [List.length_append, show (x.length + y.length) % 64 = y.length % 64 by omega, List.append_assoc, List.append_assoc, List.append_assoc]
theorem rest_nil (x : List Nat) (hx : x.length % 64 = 0) : rest x = [] := by
  have := rest_length x
  rw [hx] at this
  exact List.eq_nil_of_length_eq_zero this
theorem md5_behind (x y : List Nat) (hx : x.length % 64 = 0) : md5 (x ++ y) = told (changed (changed Md.begin x) (ended y (x.length + y.length))) := by
  rw [md5, List.length_append, ended_behind x y _ hx, changed_append, rest_nil x hx, List.nil_append]
theorem told_words (t : St) (h : t.ok) (j : Nat) (hj : j < 4) : xk (told t) 16 j = wordsOf t j := by
  have hw := wordsOf_lt t h j
  have e : xk (told t) 16 j = X (told t) j := by rw [← le_four]; unfold xk; congr 1; omega
  rw [e, X, told_get _ _ (by omega), told_get _ _ (by omega), told_get _ _ (by omega), told_get _ _ (by omega)]
  rw [show 4 * j / 4 = j by omega, show (4 * j + 1) / 4 = j by omega, show (4 * j + 2) / 4 = j by omega, show (4 * j + 3) / 4 = j by omega, show 4 * j % 4 = 0 by omega, show (4 * j + 1) % 4 = 1 by omega, show (4 * j + 2) % 4 = 2 by omega, show (4 * j + 3) % 4 = 3 by omega]
  generalize wordsOf t j = x at *
  simp only [Nat.pow_zero, Nat.div_one, show (256 : Nat) ^ 1 = 256 by decide, show (256 : Nat) ^ 2 = 65536 by decide, show (256 : Nat) ^ 3 = 16777216 by decide]
  omega
/-- A digest in progress with full blocks alone: more octets, and then done. -/
theorem ext_both (t : St) (ht : t.ok) (m : Nat) (hm : m % 64 = 0) (x : ByteArray) (hx : m + x.size ≤ 65536) : ∃ (u : St) (q : ByteArray),
    (∀ w, HasK w → Calls Tryd.prog 22 #[.agg #[.int .i64 t.a, .int .i64 t.b, .int .i64 t.c, .int .i64 t.d, .int .i64 m, .string ⟨#[]⟩], .string x] w fun e w' => e = .returned (.tuple #[.agg #[.int .i64 u.a, .int .i64 u.b, .int .i64 u.c, .int .i64 u.d, .int .i64 (m + x.size : Nat), .string q], .int .i64 0]) ∧ Below w.heap.size w w') ∧
    (∀ w, HasK w → Calls Tryd.prog 23 #[.agg #[.int .i64 u.a, .int .i64 u.b, .int .i64 u.c, .int .i64 u.d, .int .i64 (m + x.size : Nat), .string q]] w fun e w' => e = .returned (.tuple #[.agg (ob (told (changed t (ended (asc x.data.toList) (m + x.size))))), .int .i64 0]) ∧ Below w.heap.size w w') := by
  have e0 : asc (⟨#[]⟩ : ByteArray).data.toList ++ asc x.data.toList = asc x.data.toList := rfl
  refine ⟨changed t (asc x.data.toList), ((⟨#[]⟩ : ByteArray) ++ x).extract ((⟨#[]⟩ : ByteArray).size + x.size - ((⟨#[]⟩ : ByteArray).size + x.size) % 64) ((⟨#[]⟩ : ByteArray).size + x.size), fun w hK => ?_, fun w hK => ?_⟩
  · have h := xmore_yes t ht m (by omega) ⟨#[]⟩ (by rw [hm]; rfl) x (by omega) w hK
    rw [moreRes_short _ _ _ _ (by omega) _ rfl _ rfl, e0] at h
    exact h
  · have hq := rest_of ⟨#[]⟩ x
    have hqs : (((⟨#[]⟩ : ByteArray) ++ x).extract ((⟨#[]⟩ : ByteArray).size + x.size - ((⟨#[]⟩ : ByteArray).size + x.size) % 64) ((⟨#[]⟩ : ByteArray).size + x.size)).size = (m + x.size) % 64 := by
      rw [ByteArray.size_extract, ByteArray.size_append]
      show min (0 + x.size) (0 + x.size) - (0 + x.size - (0 + x.size) % 64) = _
      omega
    rw [e0] at hq
    have h := xdone_yes (changed t (asc x.data.toList)) (changed_ok t ht _) (m + x.size) hx _ hqs w hK
    rw [hq, changed_ended] at h
    exact h
/-- The digest in progress that is put together from a digest, k octets of it. -/
def DW (l : List Nat) (m : Nat) (k : Nat) : Array Value := #[.int .i64 (xk l k 0 : Nat), .int .i64 (xk l k 1 : Nat), .int .i64 (xk l k 2 : Nat), .int .i64 (xk l k 3 : Nat), .int .i64 (m : Nat), .string ⟨#[]⟩]
theorem DW_zero (l : List Nat) (m : Nat) : DW l m 0 = #[.int .i64 0, .int .i64 0, .int .i64 0, .int .i64 0, .int .i64 (m : Nat), .string ⟨#[]⟩] := by
  simp [DW, xk_zero]
theorem DW_get (l : List Nat) (m k j : Nat) (h : j < 4) : (DW l m k)[j]? = some (.int .i64 (xk l k j : Nat)) := by
  match j, h with
  | 0, _ => rfl
  | 1, _ => rfl
  | 2, _ => rfl
  | 3, _ => rfl
theorem DW_set (l : List Nat) (m k : Nat) (h : k < 16) : (DW l m k).setIfInBounds (k / 4) (.int .i64 (xk l (k + 1) (k / 4) : Nat)) = DW l m (k + 1) := by
  have hc : k / 4 = 0 ∨ k / 4 = 1 ∨ k / 4 = 2 ∨ k / 4 = 3 := by omega
  unfold DW
  rcases hc with e | e | e | e
  all_goals
    rw [e]
    simp
    try rw [xk_succ_other l k 0 (by omega)]
    try rw [xk_succ_other l k 1 (by omega)]
    try rw [xk_succ_other l k 2 (by omega)]
    try rw [xk_succ_other l k 3 (by omega)]
    try simp
theorem DW_end (t : St) (h : t.ok) (m : Nat) : DW (told t) m 16 = #[.int .i64 t.a, .int .i64 t.b, .int .i64 t.c, .int .i64 t.d, .int .i64 (m : Nat), .string ⟨#[]⟩] := by
  unfold DW
  rw [told_words t h 0 (by omega), told_words t h 1 (by omega), told_words t h 2 (by omega), told_words t h 3 (by omega)]
  rfl
theorem shl64 (o t : Nat) (ho : o < 256) (ht : t < 4) : wrap64 ((o : Int) * 2 ^ (8 * t)) = ((o * 256 ^ t : Nat) : Int) := by
  rw [shl_eq o (8 * t) (by omega) (by omega), show (256 : Nat) ^ t = 2 ^ (8 * t) by rw [Nat.pow_mul]]
theorem or_stepI (x o t : Nat) (hx : x < 256 ^ t) (ho : o < 256) (ht : t < 4) : bits .or .i64 (x : Int) ((o * 256 ^ t : Nat) : Int) = ((x + o * 256 ^ t : Nat) : Int) := by
  have hp : (256 : Nat) ^ t = 2 ^ (8 * t) := by rw [Nat.pow_mul]
  have hle : (256 : Nat) ^ t ≤ 256 ^ 3 := Nat.pow_le_pow_right (by decide) (by omega)
  have h1 : o * 256 ^ t ≤ 255 * 256 ^ t := Nat.mul_le_mul_right _ (by omega)
  rw [or64 (by omega) (by omega)]
  congr 1
  rw [Nat.or_comm, hp, Nat.mul_comm o, Nat.add_comm]
  exact (Nat.two_pow_add_eq_or_of_lt (by rw [← hp]; exact hx) _).symm
/-- What the padding is, k of its last eight octets written. -/
def padk (n k : Nat) : List Nat := (128 :: List.replicate ((119 - n % 64) % 64) 0) ++ (oct8 (8 * n)).take k
theorem padk_succ (n k : Nat) (h : k < 8) : padk n k ++ [8 * n / 256 ^ k % 256] = padk n (k + 1) := by
  unfold padk
  have h8 : (oct8 (8 * n)).length = 8 := by simp [oct8]
  rw [List.append_assoc, List.take_succ_eq_append_getElem (by rw [h8]; exact h)]
  have := oct8_get (8 * n) k h
  rw [List.getD_eq_getElem?_getD, List.getElem?_eq_getElem (by rw [h8]; exact h)] at this
  simp only [Option.getD_some] at this
  rw [this]
theorem padk_end (a : List Nat) : a ++ padk a.length 8 = ended a a.length := by
  unfold padk ended
  rw [List.take_of_length_le (by simp [oct8]), List.append_assoc]
theorem padk_length (n k : Nat) (h : k ≤ 8) : (padk n k).length = 1 + (119 - n % 64) % 64 + k := by
  unfold padk
  have h8 : (oct8 (8 * n)).length = 8 := by simp [oct8]
  rw [List.length_append, List.length_cons, List.length_replicate, List.length_take, h8]; omega
end Go.Proofs.YtfhddcjepgjfnaaDoor
