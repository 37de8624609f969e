/- Plain facts and small contracts that DigestCuts wants: octets added piece by piece. -/
import Derived.Test.YtfhddcjepgjfnaaDoorIv
import Derived.Test.YtfhddcjepgjfnaaDoorA33
namespace Go.Proofs.YtfhddcjepgjfnaaDoor
open Go.RowKit Md

/-- The numbers after the first n octets. -/
def dst (a : List Nat) (n : Nat) : St := changed Md.begin (a.take n)
theorem dst_ok (a : List Nat) (n : Nat) : (dst a n).ok := changed_ok _ begin_ok _
/-- The digest in progress after the first n octets, q behind the full blocks. -/
abbrev DS (a : List Nat) (n : Nat) (q : ByteArray) : Array Value := #[.int .i64 (dst a n).a, .int .i64 (dst a n).b, .int .i64 (dst a n).c, .int .i64 (dst a n).d, .int .i64 n, .string q]
theorem dst_zero (a : List Nat) : dst a 0 = Md.begin := by
  unfold dst; rw [List.take_zero]; exact changed_short _ _ (by decide)
theorem take_take_drop (a : List Nat) (n j : Nat) : a.take n ++ (a.drop n).take j = a.take (n + j) := by
  rw [List.take_add]
theorem DS_rest (a : List Nat) (n : Nat) (hn : n ≤ a.length) (q : ByteArray) (hq : asc q.data.toList = rest (a.take n)) : q.size = n % 64 := by
  rw [← asc_length, hq, rest_length, List.length_take]
  congr 1; omega
theorem cut_more (a : List Nat) (n j : Nat) (ha : a.length ≤ 65536) (hn : n + j ≤ a.length) (q : ByteArray) (hq : asc q.data.toList = rest (a.take n)) (x : ByteArray) (hx : asc x.data.toList = (a.drop n).take j) : ∃ q' : ByteArray, asc q'.data.toList = rest (a.take (n + j)) ∧
    ∀ w, HasK w → Calls Tryd.prog 22 #[.agg (DS a n q), .string x] w fun e w' => e = .returned (.tuple #[.agg (DS a (n + j) q'), .int .i64 0]) ∧ Below w.heap.size w w' := by
  have hxs : x.size = j := by rw [← asc_length, hx, List.length_take, List.length_drop]; omega
  subst hxs
  refine ⟨(q ++ x).extract (q.size + x.size - (q.size + x.size) % 64) (q.size + x.size), ?_, fun w hK => ?_⟩
  · rw [rest_of, hq, hx, rest_append, take_take_drop]
  · have h := xmore_yes (dst a n) (dst_ok a n) n (by omega) q (DS_rest a n (by omega) q hq) x (by omega) w hK
    have ht : changed (dst a n) (asc q.data.toList ++ asc x.data.toList) = dst a (n + x.size) := by
      rw [hq, hx, dst, ← changed_append, take_take_drop]; rfl
    rw [moreRes_short _ _ _ _ (by omega) _ ht _ rfl] at h
    exact h
theorem nat_check (s : St) (hs : s.ok) (n : Nat) (hn : n ≤ 65536) (q : ByteArray) (hq : q.size = n % 64) (w : World) :
    Calls Tryd.prog 25 #[.agg #[.int .i64 s.a, .int .i64 s.b, .int .i64 s.c, .int .i64 s.d, .int .i64 n, .string q]] w fun e w' => e = .returned (.int .i64 0) ∧ Below w.heap.size w w' :=
  check_ok s.a s.b s.c s.d n q (vald_nat s hs n hn q hq) w
theorem cut_check (a : List Nat) (n : Nat) (ha : a.length ≤ 65536) (hn : n ≤ a.length) (q : ByteArray) (hq : asc q.data.toList = rest (a.take n)) (w : World) :
    Calls Tryd.prog 25 #[.agg (DS a n q)] w fun e w' => e = .returned (.int .i64 0) ∧ Below w.heap.size w w' :=
  nat_check (dst a n) (dst_ok a n) n (Nat.le_trans hn ha) q (DS_rest a n hn q hq) w
theorem cut_done (a : List Nat) (ha : a.length ≤ 65536) (n : Nat) (hn : n = a.length) (q : ByteArray) (hq : asc q.data.toList = rest (a.take n)) (w : World) (hK : HasK w) :
    Calls Tryd.prog 23 #[.agg (DS a n q)] w fun e w' => e = .returned (.tuple #[.agg (ob (md5 a)), .int .i64 0]) ∧ Below w.heap.size w w' := by
  have h := xdone_yes (dst a n) (dst_ok a n) n (by omega) q (DS_rest a n (by omega) q hq) w hK
  have e : told (changed (dst a n) (ended (asc q.data.toList) n)) = md5 a := by
    rw [hq, dst, changed_ended, hn, List.take_of_length_le (Nat.le_refl _), md5]
  rw [e] at h
  exact h
theorem asc_inj {l m : List UInt8} (h : asc l = asc m) : l = m := by
  have := congrArg (List.map UInt8.ofNat) h
  simpa [asc, List.map_map, Function.comp_def] using this
theorem cut_suffix (s q : ByteArray) (n : Nat) (hn : n = (asc s.data.toList).length) (hq : asc q.data.toList = rest ((asc s.data.toList).take n)) : Lib.hasSuffix s.data.toList q.data.toList = true := by
  rw [hn, List.take_of_length_le (Nat.le_refl _)] at hq
  have h : q.data.toList = s.data.toList.drop (64 * ((asc s.data.toList).length / 64)) := by
    apply asc_inj
    rw [hq, rest]
    simp [asc, List.map_drop]
  rw [h, Lib.hasSuffix]
  exact List.isSuffixOf_iff_suffix.2 (List.drop_suffix _ _)
end Go.Proofs.YtfhddcjepgjfnaaDoor
