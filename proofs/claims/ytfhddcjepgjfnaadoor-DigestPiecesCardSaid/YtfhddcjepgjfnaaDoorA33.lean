/- The exported functions of the program and of the reference agree at any digest in progress. -/
import Derived.Test.YtfhddcjepgjfnaaDoorA30
import Derived.Test.YtfhddcjepgjfnaaDoorA25
import Derived.Test.YtfhddcjepgjfnaaDoorA29
namespace Go.Proofs.YtfhddcjepgjfnaaDoor
open Go.RowKit Md

theorem vald_open {a b c d n : Int} {r : ByteArray} (h : vald a b c d n r = true) : ∃ (s : St) (k : Nat), s.ok ∧ a = s.a ∧ b = s.b ∧ c = s.c ∧ d = s.d ∧ n = k ∧ k ≤ 65536 ∧ r.size = k % 64 := by
  simp only [vald, in32, Bool.and_eq_true, decide_eq_true_eq] at h
  obtain ⟨⟨⟨⟨⟨⟨ha, hb⟩, hc⟩, hd⟩, hn⟩, hn2⟩, hr⟩ := h
  exact ⟨⟨a.toNat, b.toNat, c.toNat, d.toNat⟩, n.toNat, ⟨by show a.toNat < _; omega, by show b.toNat < _; omega, by show c.toNat < _; omega, by show d.toNat < _; omega⟩, by show a = (a.toNat : Int); omega, by show b = (b.toNat : Int); omega, by show c = (c.toNat : Int); omega, by show d = (d.toNat : Int); omega, by omega, by omega, by omega⟩
theorem moreRes_form (s : St) (n : Nat) (r x : ByteArray) : ∃ (a b c d m : Int) (q : ByteArray) (e : Int), q.size ≤ 70 ∧ moreRes s n r x = .tuple #[.agg #[.int .i64 a, .int .i64 b, .int .i64 c, .int .i64 d, .int .i64 m, .string q], .int .i64 e] := by
  by_cases h : 65536 < n + x.size
  · exact ⟨0, 0, 0, 0, 0, ⟨#[]⟩, 3, by decide, moreRes_long s n r x h⟩
  · exact ⟨_, _, _, _, _, _, 0, by have := rest_size r x; omega, moreRes_short s n r x h _ rfl _ rfl⟩
theorem more_both (a b c d n : Int) (r x : ByteArray) (hx : x.size ≤ 140737488355328) : ∃ (a' b' c' d' m : Int) (q : ByteArray) (e' : Int), q.size ≤ 70 ∧
    (∀ w, HasK w → Calls Tryd.prog 22 #[.agg #[.int .i64 a, .int .i64 b, .int .i64 c, .int .i64 d, .int .i64 n, .string r], .string x] w fun e w' => e = .returned (.tuple #[.agg #[.int .i64 a', .int .i64 b', .int .i64 c', .int .i64 d', .int .i64 m, .string q], .int .i64 e']) ∧ Below w.heap.size w w') ∧
    (∀ w, Calls Tryd.prog 18 #[.agg #[.int .i64 a, .int .i64 b, .int .i64 c, .int .i64 d, .int .i64 n, .string r], .string x] w fun e w' => e = .returned (.tuple #[.agg #[.int .i64 a', .int .i64 b', .int .i64 c', .int .i64 d', .int .i64 m, .string q], .int .i64 e']) ∧ Below w.heap.size w w') := by
  by_cases h : vald a b c d n r = true
  · obtain ⟨s, k, hs, rfl, rfl, rfl, rfl, rfl, hk, hr⟩ := vald_open h
    obtain ⟨a', b', c', d', m, q, e', hq, he⟩ := moreRes_form s k r x
    refine ⟨a', b', c', d', m, q, e', hq, fun w hK => ?_, fun w => ?_⟩
    · rw [← he]; exact xmore_yes s hs k hk r hr x hx w hK
    · rw [← he]; exact moreI_yes s hs k hk r hr x hx w
  · have h' : vald a b c d n r = false := by simpa using h
    exact ⟨0, 0, 0, 0, 0, ⟨#[]⟩, 80, by decide, fun w _ => xmore_no a b c d n r x h' w, fun w => moreI_no a b c d n r x h' w⟩
theorem done_both (a b c d n : Int) (r : ByteArray) : ∃ (l : List Nat) (e' : Int), l.length = 16 ∧
    (∀ w, HasK w → Calls Tryd.prog 23 #[.agg #[.int .i64 a, .int .i64 b, .int .i64 c, .int .i64 d, .int .i64 n, .string r]] w fun e w' => e = .returned (.tuple #[.agg (ob l), .int .i64 e']) ∧ Below w.heap.size w w') ∧
    (∀ w, Calls Tryd.prog 24 #[.agg #[.int .i64 a, .int .i64 b, .int .i64 c, .int .i64 d, .int .i64 n, .string r]] w fun e w' => e = .returned (.tuple #[.agg (ob l), .int .i64 e']) ∧ Below w.heap.size w w') := by
  by_cases h : vald a b c d n r = true
  · obtain ⟨s, k, hs, rfl, rfl, rfl, rfl, rfl, hk, hr⟩ := vald_open h
    exact ⟨_, 0, told_length _, fun w hK => xdone_yes s hs k hk r hr w hK, fun w => doneI_yes s hs k hk r hr w⟩
  · have h' : vald a b c d n r = false := by simpa using h
    exact ⟨List.replicate 16 0, 80, rfl, fun w _ => xdone_no a b c d n r h' w, fun w => doneI_no a b c d n r h' w⟩
theorem check_both (a b c d n : Int) (r : ByteArray) : ∃ (e' : Int),
    (∀ w, Calls Tryd.prog 25 #[.agg #[.int .i64 a, .int .i64 b, .int .i64 c, .int .i64 d, .int .i64 n, .string r]] w fun e w' => e = .returned (.int .i64 e') ∧ Below w.heap.size w w') ∧
    (∀ w, Calls Tryd.prog 26 #[.agg #[.int .i64 a, .int .i64 b, .int .i64 c, .int .i64 d, .int .i64 n, .string r]] w fun e w' => e = .returned (.int .i64 e') ∧ Below w.heap.size w w') := by
  have h2 := checkI_any a b c d n r
  by_cases h : vald a b c d n r = true
  · rw [if_pos h] at h2
    exact ⟨0, fun w => check_ok a b c d n r h w, h2⟩
  · rw [if_neg h] at h2
    exact ⟨80, fun w => check_no a b c d n r (by simpa using h) w, h2⟩
theorem part39 (a b c d n : Int) (r : ByteArray) (w : World) : (part 39 #[.int .i64 a, .int .i64 b, .int .i64 c, .int .i64 d, .int .i64 n, .string r] 0).run Tryd.prog w = .ok (.agg #[.int .i64 a, .int .i64 b, .int .i64 c, .int .i64 d]) w := by kernel_rfl
theorem part3 (a b c d n : Int) (r : ByteArray) (w : World) : (part 3 #[.int .i64 a, .int .i64 b, .int .i64 c, .int .i64 d, .int .i64 n, .string r] 4).run Tryd.prog w = .ok (.int .i64 n) w := by kernel_rfl
theorem part9 (a b c d n : Int) (r : ByteArray) (w : World) : (part 9 #[.int .i64 a, .int .i64 b, .int .i64 c, .int .i64 d, .int .i64 n, .string r] 5).run Tryd.prog w = .ok (.string r) w := by kernel_rfl
theorem eq39l (a b c d : Int) (w : World) : (Op.equalIn 9999 39 (.agg #[.int .i64 a, .int .i64 b, .int .i64 c, .int .i64 d]) (.agg #[.int .i64 a, .int .i64 b, .int .i64 c, .int .i64 d])).run Tryd.prog w = .ok true w := by
  have := run_equalIn_array (P := Tryd.prog) (k := .i64) (k' := .i64) Tryd.underlying39 Tryd.underlying3 Tryd.isAgg3 Tryd.sizeOf3 9997 [a, b, c, d] [a, b, c, d] rfl rfl w
  simpa using this
theorem eq3l (n : Int) (w : World) : (Op.equalIn 9999 3 (.int .i64 n) (.int .i64 n)).run Tryd.prog w = .ok true w := by
  have := run_equalIn_int (P := Tryd.prog) w 9998 3 .i64 .i64 n n Tryd.underlying3
  simpa using this
theorem eq9l (r : ByteArray) (w : World) : (Op.equalIn 9999 9 (.string r) (.string r)).run Tryd.prog w = .ok true w := by
  have := run_equalIn_string (P := Tryd.prog) w 9998 9 r r Tryd.underlying9
  simpa using this
theorem stood41 : Tryd.prog.stoodInHeld 41 = false := by kernel_rfl
theorem eq41 (a b c d n : Int) (r : ByteArray) (w : World) : (Op.equalIn 10000 41 (.agg #[.int .i64 a, .int .i64 b, .int .i64 c, .int .i64 d, .int .i64 n, .string r]) (.agg #[.int .i64 a, .int .i64 b, .int .i64 c, .int .i64 d, .int .i64 n, .string r])).run Tryd.prog w = .ok true w := by
  rw [Op.equalIn]
  simp only [Sem.run_bind, run_underlying Tryd.underlying41, Result.andThen_ok]
  simp [Sem.run_bind, part39, part3, part9, eq39l, eq3l, eq9l]
end Go.Proofs.YtfhddcjepgjfnaaDoor
