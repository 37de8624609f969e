/- The plain function that both texts compute (a block's change of four numbers, the padding, the octets of the numbers), over natural numbers; and the digests of the chapter's examples. No program in sight. -/
import Derived.Laws.Entries
namespace Go.Proofs.YtfhddcjepgjfnaaDoor
namespace Md

/-- The constants of the 64 steps. -/
def K : List Nat := [
    0xd76aa478, 0xe8c7b756, 0x242070db, 0xc1bdceee, 0xf57c0faf, 0x4787c62a, 0xa8304613, 0xfd469501,
    0x698098d8, 0x8b44f7af, 0xffff5bb1, 0x895cd7be, 0x6b901122, 0xfd987193, 0xa679438e, 0x49b40821,
    0xf61e2562, 0xc040b340, 0x265e5a51, 0xe9b6c7aa, 0xd62f105d, 0x02441453, 0xd8a1e681, 0xe7d3fbc8,
    0x21e1cde6, 0xc33707d6, 0xf4d50d87, 0x455a14ed, 0xa9e3e905, 0xfcefa3f8, 0x676f02d9, 0x8d2a4c8a,
    0xfffa3942, 0x8771f681, 0x6d9d6122, 0xfde5380c, 0xa4beea44, 0x4bdecfa9, 0xf6bb4b60, 0xbebfbc70,
    0x289b7ec6, 0xeaa127fa, 0xd4ef3085, 0x04881d05, 0xd9d4d039, 0xe6db99e5, 0x1fa27cf8, 0xc4ac5665,
    0xf4292244, 0x432aff97, 0xab9423a7, 0xfc93a039, 0x655b59c3, 0x8f0ccc92, 0xffeff47d, 0x85845dd1,
    0x6fa87e4f, 0xfe2ce6e0, 0xa3014314, 0x4e0811a1, 0xf7537e82, 0xbd3af235, 0x2ad7d2bb, 0xeb86d391]

/-- The rotations of the four rounds. -/
def R : List (List Nat) := [[7, 12, 17, 22], [5, 9, 14, 20], [4, 11, 16, 23], [6, 10, 15, 21]]

/-- The mixing function of a round (numbers below 2^32). -/
def mix (r b c d : Nat) : Nat :=
  if r = 0 then (b &&& c) ||| ((4294967295 - b) &&& d)
  else if r = 1 then (d &&& b) ||| ((4294967295 - d) &&& c)
  else if r = 2 then (b ^^^ c) ^^^ d
  else c ^^^ (b ||| (4294967295 - d))

/-- The word of a step. -/
def wd (r i : Nat) : Nat :=
  if r = 0 then i else if r = 1 then (5 * i + 1) % 16 else if r = 2 then (3 * i + 5) % 16 else 7 * i % 16

def rot (x s : Nat) : Nat := (x * 2 ^ s % 4294967296) ||| (x / 2 ^ (32 - s))

structure St where
  a : Nat
  b : Nat
  c : Nat
  d : Nat

def St.ok (s : St) : Prop := s.a < 4294967296 ∧ s.b < 4294967296 ∧ s.c < 4294967296 ∧ s.d < 4294967296

/-- Word j of a block. -/
def X (l : List Nat) (j : Nat) : Nat := l.getD (4*j) 0 + l.getD (4*j+1) 0 * 256 + l.getD (4*j+2) 0 * 65536 + l.getD (4*j+3) 0 * 16777216

def sumOf (x : Nat → Nat) (s : St) (i : Nat) : Nat := (s.a + mix (i / 16) s.b s.c s.d + K.getD i 0 + x (wd (i / 16) i)) % 4294967296
def step (x : Nat → Nat) (s : St) (i : Nat) : St :=
  ⟨s.d, (s.b + rot (sumOf x s i) ((R.getD (i / 16) []).getD (i % 4) 0)) % 4294967296, s.b, s.c⟩
def steps (x : Nat → Nat) (s : St) (n : Nat) : St := (List.range n).foldl (step x) s
def add4 (s t : St) : St := ⟨(s.a + t.a) % 4294967296, (s.b + t.b) % 4294967296, (s.c + t.c) % 4294967296, (s.d + t.d) % 4294967296⟩
/-- A block's change. -/
def blk (s : St) (l : List Nat) : St := add4 s (steps (X l) s 64)

/-- All full blocks; fuel: the number of full blocks. -/
def chg : Nat → St → List Nat → St
  | 0, s, _ => s
  | n+1, s, l => chg n (blk s (l.take 64)) (l.drop 64)
def changed (s : St) (l : List Nat) : St := chg (l.length / 64) s l

def begin : St := ⟨0x67452301, 0xefcdab89, 0x98badcfe, 0x10325476⟩
/-- The eight octets of a number, the least one first. -/
def oct8 (n : Nat) : List Nat := (List.range 8).map fun i => n / 256 ^ i % 256
/-- The octets with the octet 128, zeros, and the number of bits of n octets behind. -/
def ended (l : List Nat) (n : Nat) : List Nat := l ++ (128 :: List.replicate ((119 - l.length % 64) % 64) 0) ++ oct8 (8 * n)
def wordsOf (s : St) (i : Nat) : Nat := if i = 0 then s.a else if i = 1 then s.b else if i = 2 then s.c else s.d
def told (s : St) : List Nat := (List.range 16).map fun i => wordsOf s (i / 4) / 256 ^ (i % 4) % 256
def md5 (l : List Nat) : List Nat := told (changed begin (ended l l.length))

def dig (n : Nat) : Nat := if n < 10 then 48 + n else 87 + n
def hex (l : List Nat) : List Nat := l.flatMap fun o => [dig (o / 16), dig (o % 16)]

def asc (l : List UInt8) : List Nat := l.map (·.toNat)

theorem ex0 : hex (md5 []) = asc "d41d8cd98f00b204e9800998ecf8427e".toUTF8.data.toList := by decide +kernel
theorem ex1 : hex (md5 [97]) = asc "0cc175b9c0f1b6a831c399e269772661".toUTF8.data.toList := by decide +kernel
end Md
end Go.Proofs.YtfhddcjepgjfnaaDoor
