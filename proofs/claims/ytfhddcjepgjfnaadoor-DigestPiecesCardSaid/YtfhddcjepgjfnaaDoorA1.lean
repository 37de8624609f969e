/- Walks: the small functions of package digest. -/
import Derived.Test.YtfhddcjepgjfnaaDoorRows
import Derived.Test.YtfhddcjepgjfnaaDoorBits
import Derived.Test.YtfhddcjepgjfnaaDoorKit
import Derived.BigQuiet
import Derived.Deep.QuietTactic
import Derived.Outline
import Derived.Laws.Rows
import Derived.Laws.EntriesVeiled
namespace Go.Proofs.YtfhddcjepgjfnaaDoor
open Go.RowKit Md


set_option maxHeartbeats 400000 in
theorem r1_any (b c d : Nat) (hb : b < 4294967296) (hc : c < 4294967296) (hd : d < 4294967296) (w : World) :
    Calls Tryd.prog 72 #[.int .u32 b, .int .u32 c, .int .u32 d] w fun e w' => e = .returned (.int .u32 (mix 0 b c d : Nat)) ∧ w = w' := by
  have hs := s32
  go_enter Tryd.func72, Tryd.ntmps72
  go_wp2
  go_ret
  refine ⟨ret_eq (int_eq ?_), rfl⟩
  have h1 := Nat.lt_of_le_of_lt (Nat.and_le_left (n := b) (m := c)) hb
  have h2 := Nat.lt_of_le_of_lt (Nat.and_le_right (n := 4294967295 - b) (m := d)) hd
  rw [not32 hb, and32 hb hc, and32 (by omega) hd, or32 h1 h2]; rfl

set_option maxHeartbeats 400000 in
theorem r2_any (b c d : Nat) (hb : b < 4294967296) (hc : c < 4294967296) (hd : d < 4294967296) (w : World) :
    Calls Tryd.prog 74 #[.int .u32 b, .int .u32 c, .int .u32 d] w fun e w' => e = .returned (.int .u32 (mix 1 b c d : Nat)) ∧ w = w' := by
  have hs := s32
  go_enter Tryd.func74, Tryd.ntmps74
  go_wp2
  go_ret
  refine ⟨ret_eq (int_eq ?_), rfl⟩
  have h1 := Nat.lt_of_le_of_lt (Nat.and_le_left (n := d) (m := b)) hd
  have h2 := Nat.lt_of_le_of_lt (Nat.and_le_right (n := 4294967295 - d) (m := c)) hc
  rw [not32 hd, and32 hd hb, and32 (by omega) hc, or32 h1 h2]; rfl

set_option maxHeartbeats 400000 in
theorem r3_any (b c d : Nat) (hb : b < 4294967296) (hc : c < 4294967296) (hd : d < 4294967296) (w : World) :
    Calls Tryd.prog 76 #[.int .u32 b, .int .u32 c, .int .u32 d] w fun e w' => e = .returned (.int .u32 (mix 2 b c d : Nat)) ∧ w = w' := by
  have hs := s32
  go_enter Tryd.func76, Tryd.ntmps76
  go_wp2
  go_ret
  refine ⟨ret_eq (int_eq ?_), rfl⟩
  have h1 := Nat.xor_lt_two_pow (n := 32) hb hc
  rw [xor32 hb hc, xor32 h1 hd]; rfl

set_option maxHeartbeats 400000 in
theorem r4_any (b c d : Nat) (hb : b < 4294967296) (hc : c < 4294967296) (hd : d < 4294967296) (w : World) :
    Calls Tryd.prog 78 #[.int .u32 b, .int .u32 c, .int .u32 d] w fun e w' => e = .returned (.int .u32 (mix 3 b c d : Nat)) ∧ w = w' := by
  have hs := s32
  go_enter Tryd.func78, Tryd.ntmps78
  go_wp2
  go_ret
  refine ⟨ret_eq (int_eq ?_), rfl⟩
  have h1 := Nat.or_lt_two_pow (n := 32) hb (show 4294967295 - d < _ by omega)
  rw [not32 hd, or32 hb (by omega), xor32 hc h1]; rfl

set_option maxHeartbeats 400000 in
theorem w1_any (i : Nat) (_hi : i < 64) (w : World) :
    Calls Tryd.prog 73 #[.int .i64 i] w fun e w' => e = .returned (.int .i64 (wd 0 i : Nat)) ∧ w = w' := by
  go_enter Tryd.func73, Tryd.ntmps73
  go_wp2
  go_ret
  exact ⟨rfl, rfl⟩
set_option maxHeartbeats 400000 in
theorem w2_any (i : Nat) (hi : i < 64) (w : World) :
    Calls Tryd.prog 75 #[.int .i64 i] w fun e w' => e = .returned (.int .i64 (wd 1 i : Nat)) ∧ w = w' := by
  go_enter Tryd.func75, Tryd.ntmps75
  go_wp2
  go_ret
  exact ⟨ret_eq (int_eq (by simp [wd])), rfl⟩
set_option maxHeartbeats 400000 in
theorem w3_any (i : Nat) (hi : i < 64) (w : World) :
    Calls Tryd.prog 77 #[.int .i64 i] w fun e w' => e = .returned (.int .i64 (wd 2 i : Nat)) ∧ w = w' := by
  go_enter Tryd.func77, Tryd.ntmps77
  go_wp2
  go_ret
  exact ⟨ret_eq (int_eq (by simp [wd])), rfl⟩
set_option maxHeartbeats 400000 in
theorem w4_any (i : Nat) (hi : i < 64) (w : World) :
    Calls Tryd.prog 79 #[.int .i64 i] w fun e w' => e = .returned (.int .i64 (wd 3 i : Nat)) ∧ w = w' := by
  go_enter Tryd.func79, Tryd.ntmps79
  go_wp2
  go_ret
  exact ⟨ret_eq (int_eq (by simp [wd])), rfl⟩

theorem and31 (b : Nat) (h : b < 32) : bits .and .u64 (b : Int) 31 = (b : Int) := by
  have : ∀ b : Fin 32, bits .and .u64 ((b.val : Nat) : Int) 31 = ((b.val : Nat) : Int) := by decide
  exact this ⟨b, h⟩

set_option maxHeartbeats 400000 in
theorem rot_any (a b : Nat) (ha : a < 4294967296) (h' : b < 32) (w : World) :
    Calls Tryd.prog 65 #[.int .u32 a, .int .i64 b] w fun e w' => e = .returned (.int .u32 (rot a b : Nat)) ∧ w = w' := by
  have hA := and31 b h'
  go_enter Tryd.func65, Tryd.ntmps65
  go_wp2
  go_ret
  refine ⟨ret_eq (int_eq ?_), rfl⟩
  have e1 : ((a : Int) * 2 ^ b % 4294967296) = ((a * 2 ^ b % 4294967296 : Nat) : Int) := by simp
  have e2 : ((a : Int) / 2 ^ (32 - b)) = ((a / 2 ^ (32 - b) : Nat) : Int) := by simp
  show bits BinOp.or IntKind.u32 ((a : Int) * 2 ^ b % 4294967296) ((a : Int) / 2 ^ (32 - b)) = _
  rw [e1, e2, or32 (Nat.mod_lt _ (by decide)) (Nat.lt_of_le_of_lt (Nat.div_le_self _ _) ha)]; rfl

set_option maxHeartbeats 400000 in
theorem start_any (w : World) :
    Calls Tryd.prog 31 #[] w fun e w' => e = .returned (.agg #[.int .u32 1732584193, .int .u32 4023233417, .int .u32 2562383102, .int .u32 271733878, .int .i64 0, (.string ⟨#[]⟩)]) ∧ Below w.heap.size w w' := by
  go_enter Tryd.func31, Tryd.ntmps31
  go_wp2
  exact bodyPost_ret (v := .agg #[.int .u32 1732584193, .int .u32 4023233417, .int .u32 2562383102, .int .u32 271733878, .int .i64 0, (.string ⟨#[]⟩)]) (by simp [results, Tryd.results31, go_sem]) rfl ⟨rfl, (Below.refl _ _).alloc (Nat.le_refl _) _⟩

/-- What rounds returns. -/
def rnds : Array Value := #[.func (.func 72) #[] #[], .func (.func 73) #[] #[], .int .i64 7, .int .i64 12, .int .i64 17, .int .i64 22, .func (.func 74) #[] #[], .func (.func 75) #[] #[], .int .i64 5, .int .i64 9, .int .i64 14, .int .i64 20, .func (.func 76) #[] #[], .func (.func 77) #[] #[], .int .i64 4, .int .i64 11, .int .i64 16, .int .i64 23, .func (.func 78) #[] #[], .func (.func 79) #[] #[], .int .i64 6, .int .i64 10, .int .i64 15, .int .i64 21]
set_option maxRecDepth 100000 in
set_option maxHeartbeats 1000000 in
theorem rounds_any (w : World) :
    Calls Tryd.prog 64 #[] w fun e w' => e = .returned (.agg rnds) ∧ Below w.heap.size w w' := by
  go_enter Tryd.func64, Tryd.ntmps64
  go_wp2_with (refine wpList_store_new rfl 106 _ _ rfl _ rnds rfl rfl 24 ?c1 rfl ?c2 ?c3 ?_)
  case c1 => kernel_rfl
  case c2 => rfl
  case c3 => rfl
  go_wp2
  exact bodyPost_ret (v := .agg rnds) (results_cell_row rfl _ _ w.heap.size 106 rnds (0, 0) (.array 4 105) rfl (heap_alloc_new _ _) Tryd.underlying106 rfl (by kernel_rfl)) rfl ⟨rfl, (Below.refl _ _).alloc (Nat.le_refl _) _⟩

theorem words_at (a b c d j : Nat) (h : j < 4) : [Value.int .u32 a, Value.int .u32 b, Value.int .u32 c, Value.int .u32 d][j]? = some (.int .u32 (wordsOf ⟨a, b, c, d⟩ j : Nat)) := by
  match j, h with
  | 0, _ => rfl
  | 1, _ => rfl
  | 2, _ => rfl
  | 3, _ => rfl
theorem oct_eq (x i : Nat) (_h : i < 4) : ((x : Int) / 2 ^ (8 * i)) % 256 = ((x / 256 ^ i % 256 : Nat) : Int) := by
  rw [show (256 : Nat) ^ i = 2 ^ (8 * i) by rw [Nat.pow_mul]]
  simp
set_option maxHeartbeats 400000 in
theorem octet_any (a b c d i : Nat) (hi : i < 16) (w : World) :
    Calls Tryd.prog 54 #[.agg #[.int .u32 a, .int .u32 b, .int .u32 c, .int .u32 d], .int .i64 i] w fun e w' => e = .returned (.int .u8 (wordsOf ⟨a, b, c, d⟩ (i / 4) / 256 ^ (i % 4) % 256 : Nat)) ∧ Below w.heap.size w w' := by
  have hc := words_at a b c d (i / 4) (by omega)
  have ho := oct_eq (wordsOf ⟨a, b, c, d⟩ (i / 4)) (i % 4) (by omega)
  generalize wordsOf ⟨a, b, c, d⟩ (i / 4) = x at *
  have Ho := Lib.hid ho
  clear ho
  go_enter Tryd.func54, Tryd.ntmps54
  go_wp2
  go_ret
  refine ⟨ret_eq ?_, (Below.refl _ _).alloc (Nat.le_refl _) _⟩
  rw [← Ho.out]; rfl

end Go.Proofs.YtfhddcjepgjfnaaDoor
