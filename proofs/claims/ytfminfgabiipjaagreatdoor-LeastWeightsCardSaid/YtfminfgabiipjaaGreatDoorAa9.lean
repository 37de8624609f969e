/- Aa, part 9: Tab Int Rat -/
import Derived.Lib.AppendIntMem
import Derived.Test.YtfminfgabiipjaaGreatDoorAa0
import Derived.Test.YtfminfgabiipjaaGreatDoorAa3
import Derived.Test.YtfminfgabiipjaaGreatDoorAa6
import Derived.Test.YtfminfgabiipjaaGreatDoorAa7
import Derived.Test.YtfminfgabiipjaaGreatDoorAa8
set_option maxRecDepth 100000
set_option maxHeartbeats 16000000
namespace Go.Proofs.YtfminfgabiipjaaGreatDoor
open Go.RowKit
def HasT (w : World) : Prop := Lib.TabIs Tryz.prog w "internal/strconv.uint64pow10" .u64 Lib.pow10Tab
theorem HasT.below {w w' : World} (h : HasT w) (hb : Below w.heap.size w w') : HasT w' := Lib.tabBelow_of_tabIs h w' hb
def num (x : Nat) : ByteArray := ⟨(Lib.decDigits x).toArray⟩
theorem qdT (x : Nat) : (num x).size = (Lib.decDigits x).length := rfl
theorem qgK (n : Nat) (hn : n < 9223372036854775808) (w : World) (hT : HasT w) :
  Calls Tryz.prog 162 #[.int .i64 (n : Int)] w fun e w' => e = .returned (.string (num n)) ∧ Below w.heap.size w w' := by
 refine (Tryz.strconv_Itoa (n : Int) (by omega) (by omega) w hT).mono ?_
 rintro e w' ⟨rfl, k, os, rfl⟩
 refine ⟨?_, Lib.below_grow _ _ qN _ _⟩
 have : Lib.itoa (n : Int) = Lib.decDigits n := by
  unfold Lib.itoa; rw [if_neg (by omega), Int.toNat_natCast]
 rw [this]; rfl
theorem qjT {B b : Nat} {p : Value} {bs : List Value} {w w' : World} (h : Bd B b p bs w) (hb : Below w.heap.size w w') : Bd B b p bs w' := by
 obtain ⟨h1, v, h2, h3, h4⟩ := h
 have hlt := (qG h2).1
 have hg : w.grownBy w' none := ⟨hb.os, hb.tape, hb.output, hb.size, fun k hk _ => hb.block k hk⟩
 refine ⟨h1, v, (hb.block b hlt).trans h2, h3.kept hg ?_, h4⟩
 cases v.ownBlock with
 | none => exact qaA rfl
 | some k => exact qas (by simp)
theorem qhI {B b : Nat} {bs : List Value} {w w' : World} (h : IsBd B b bs w) (hb : Below w.heap.size w w') : IsBd B b bs w' := h.elim (fun h => .inl (qjT h hb)) (fun h => .inr (qjT h hb))
end Go.Proofs.YtfminfgabiipjaaGreatDoor
namespace Go.Proofs.YtfminfgabiipjaaGreatDoor
open Go.RowKit Go.Lib
def body (s : List UInt8) : List UInt8 := trimPrefix s [45]
def signd (s : List UInt8) : Bool := hasPrefix s [45]
theorem qjU (s : List UInt8) : body (45 :: s) = s ∧ signd (45 :: s) = true := ⟨rfl, rfl⟩
theorem qjV {s : List UInt8} (h : s.head? ≠ some 45) : body s = s ∧ signd s = false := by
 cases s with
 | nil => exact ⟨rfl, rfl⟩
 | cons c t =>
  have hc : c ≠ 45 := fun e => h (by rw [e]; rfl)
  have hp : hasPrefix (c :: t) [45] = false := by
   show (45 == c && _) = false
   rw [beq_eq_false_iff_ne.2 (Ne.symm hc)]; rfl
  refine ⟨?_, hp⟩
  show trimPrefix (c :: t) [45] = c :: t
  unfold trimPrefix
  rw [hp]; rfl
structure Valid (s : List UInt8) : Prop where
 nums : Nums (body s)
 pos : 0 < (body s).length
 le : (body s).length ≤ 600
 lead : (body s).head? = some 48 → (body s).length = 1 ∧ signd s = false
def ival (s : List UInt8) : Int := if signd s = true then -(dval (body s) : Int) else dval (body s)
theorem Valid.plainly {s : List UInt8} (h : Valid s) : qjh (body s) := ⟨fun e => by have := h.pos; rw [e] at this; exact absurd this (by simp), h.nums, fun e => (h.lead e).1⟩
theorem Valid.natAbs {s : List UInt8} (_h : Valid s) : (ival s).natAbs = dval (body s) := by
 unfold ival; split
 ·rw [qbv, qat]
 ·rw [qat]
theorem Valid.neg {s : List UInt8} (h : Valid s) : decide (ival s < 0) = signd s := by
 unfold ival
 cases hs : signd s with
 | false => rw [if_neg (by simp)]; exact decide_eq_false (by omega)
 | true =>
  rw [if_pos rfl]
  refine decide_eq_true ?_
  rcases qaH (dval (body s)) with h0 | h0
  ·have h1 := qkW _ h.plainly
   rw [h0, qce (by decide)] at h1
   have := (h.lead (by rw [h1]; rfl)).2
   rw [hs] at this; cases this
  ·omega
theorem qkI {v n k : Nat} (h : v < 10 ^ n) (hn : n ≤ 9 * k) : Fit v k := by
 unfold Fit; rw [pow9]
 exact qak h (qaT (by decide) hn)
theorem Valid.fit {s : List UInt8} (h : Valid s) : Fit (ival s).natAbs 67 := by
 rw [h.natAbs]
 exact qkI (qjr _ _ rfl h.nums) (by have := h.le; omega)
def itxt (z : Int) : List UInt8 := if z < 0 then 45 :: decDigits z.natAbs else decDigits z.natAbs
theorem qgE (u : Nat) : (decDigits u).head? ≠ some 45 := by
 cases h : decDigits u with
 | nil => exact absurd h (qea u)
 | cons c t =>
  intro e
  have hc : c = 45 := qan e
  have := qfk u c (by rw [h]; exact List.mem_cons_self)
  rw [hc] at this
  have h45 : (45 : UInt8).toNat = 45 := rfl
  omega
theorem qgV (z : Int) : body (itxt z) = decDigits z.natAbs ∧ signd (itxt z) = decide (z < 0) := by
 unfold itxt
 by_cases h : z < 0
 ·rw [if_pos h, decide_eq_true h]; exact qjU _
 ·rw [if_neg h, decide_eq_false h]; exact qjV (qgE _)
theorem qdw (z : Int) : ival (itxt z) = z := by
 unfold ival
 rw [(qgV z).1, (qgV z).2, qhx]
 by_cases h : z < 0
 ·rw [if_pos (decide_eq_true h)]; omega
 ·rw [if_neg (by rw [decide_eq_false h]; simp)]; omega
theorem qhV {z : Int} (h : (decDigits z.natAbs).length ≤ 600) : Valid (itxt z) := by
 obtain ⟨h1, h2⟩ := qgV z
 refine ⟨by rw [h1]; exact qfk _, by rw [h1]; exact List.length_pos_iff.2 (qea _), by rw [h1]; exact h, fun e => ?_⟩
 rw [h1] at e
 have h0 := qfj _ e
 rw [h1, h2, h0, qce (by decide)]
 exact ⟨rfl, decide_eq_false (by omega)⟩
theorem qlS {W : World} {ao : Option Addr} {b off c n g : Nat} {L : List Nat} {cs : Array Value} {t : TypeId} {fz : Nat × Nat} (h : IsM W ao b off c n L) (hg : W.heap[g]? = some (.cells cs t fz)) (hne : ∀ x ∈ cs.toList, ∀ d, x ≠ .int .u32 d) (h0 : 0 < n) : b ≠ g := by
 rintro rfl
 have h1 := h.cell 0 h0
 unfold World.cell? at h1
 simp only [hg] at h1
 have h2 : cs[off + 0]? = some (.int .u32 ((dg L 0 : Nat) : Int)) := by
  simpa using h1
 exact hne _ (by rw [Array.mem_toList_iff]; exact Array.mem_of_getElem? h2) _ rfl
theorem qfv (W : World) (g : Nat) (cs : Array Value) : W.grownBy (W.setRow g cs) (some g) := by
 refine ⟨rfl, rfl, rfl, by simp [World.setRow], fun k hk hr => ?_⟩
 exact setRow_other _ _ _ _ (fun e => hr (by rw [e]))
theorem qcC {W W' : World} {v : Value} {x g : Nat} {cs : Array Value} {t : TypeId} {fz : Nat × Nat} (h : MagAt W v x) (hk : W.grownBy W' (some g)) (hg : W.heap[g]? = some (.cells cs t fz)) (hne : ∀ x ∈ cs.toList, ∀ d, x ≠ .int .u32 d) : MagAt W' v x := by
 obtain ⟨ao, b, off, c, n, L, rfl, h1, h2⟩ := h
 exact ⟨ao, b, off, c, n, L, rfl, ⟨h1.len, h1.cap, qfa hk h1.cells (fun h0 => qlS h1 hg hne (by rw [← h1.len]; exact h0)), h1.dig, h1.nrm⟩, h2⟩
theorem qc2 {W : World} {v : Value} {x g : Nat} {cs cs' : Array Value} {t : TypeId} {fz : Nat × Nat} (h : MagAt W v x) (hg : W.heap[g]? = some (.cells cs t fz)) (hne : ∀ x ∈ cs.toList, ∀ d, x ≠ .int .u32 d) : MagAt (W.setRow g cs') v x := qcC h (qfv W g cs') hg hne
theorem qej : ∀ x ∈ (#[.slice none 0 0, .bool false] : Array Value).toList, ∀ d, x ≠ .int .u32 d := by
 intro x hx d
 rcases qaL.1 hx with rfl | hx
 ·intro h; cases h
 ·rw [qaq.1 hx]; intro h; cases h
def IntAt (W : World) (v : Value) (z : Int) : Prop := ∃ m, v = .agg #[m, .bool (decide (z < 0))] ∧ MagAt W m z.natAbs
theorem IntAt.below {W W' : World} {v : Value} {z : Int} (h : IntAt W v z) (hb : Below W.heap.size W W') : IntAt W' v z := by
 obtain ⟨m, h1, h2⟩ := h
 exact ⟨m, h1, h2.below hb⟩
theorem qhR {W : World} {m : Value} {x : Nat} {neg : Bool} (h : MagAt W m x) : IntAt W (.agg #[m, .bool (neg && !decide (x = 0))]) (if neg = true then -(x : Int) else x) := by
 have hb : (neg && !decide (x = 0)) = decide ((if neg = true then -(x : Int) else x) < 0) := by
  cases neg with
  | false => rw [Bool.false_and, if_neg (by simp)]; exact (decide_eq_false (by omega)).symm
  | true =>
   rw [if_pos rfl, Bool.true_and]
   by_cases h0 : x = 0
   ·rw [decide_eq_true h0]; exact (decide_eq_false (by omega)).symm
   ·rw [decide_eq_false h0]; exact (decide_eq_true (by omega)).symm
 rw [hb]
 refine ⟨m, rfl, ?_⟩
 ·cases neg with
  | false => simpa using h
  | true => rw [if_pos rfl, qbv, qat]; exact h
end Go.Proofs.YtfminfgabiipjaaGreatDoor
namespace Go.Proofs.YtfminfgabiipjaaGreatDoor
theorem qkl {z N : Int} {d D : Nat} (hd : d ≠ 0) (hc : z.natAbs.Coprime d) (hD : D ≠ 0) (h : z * D = N * d) {q : Rat} (hq : q = mkRat N D) : q.num = z ∧ q.den = d := by
 have e : q = (⟨z, d, hd, hc⟩ : Rat) := by
  rw [hq, Rat.mk_eq_mkRat]
  exact ((Rat.mkRat_eq_iff hd hD).2 h).symm
 rw [e]; exact ⟨rfl, rfl⟩
theorem rat_mul {p q : Rat} {z : Int} {d : Nat} (hd : d ≠ 0) (hc : z.natAbs.Coprime d) (h : z * (p.den * q.den : Nat) = p.num * q.num * d) : (p * q).num = z ∧ (p * q).den = d :=
 qkl hd hc (Nat.mul_ne_zero p.den_nz q.den_nz) h (Rat.mul_def' p q)
theorem rat_add {p q : Rat} {z : Int} {d : Nat} (hd : d ≠ 0) (hc : z.natAbs.Coprime d) (h : z * (p.den * q.den : Nat) = (p.num * q.den + q.num * p.den) * d) : (p + q).num = z ∧ (p + q).den = d :=
 qkl hd hc (Nat.mul_ne_zero p.den_nz q.den_nz) h (Rat.add_def' p q)
theorem mul_low {x X y Y : Nat} (h1 : x.Coprime X) (h2 : y.Coprime Y) (hX : 0 < X) (hY : 0 < Y) :
  (x / x.gcd Y * (y / y.gcd X)).Coprime (X / y.gcd X * (Y / x.gcd Y)) ∧ x / x.gcd Y * (y / y.gcd X) * (X * Y) = x * y * (X / y.gcd X * (Y / x.gcd Y)) := by
 have hg : 0 < x.gcd Y := qbq _ hY
 have hh : 0 < y.gcd X := qbq _ hX
 obtain ⟨a, ha⟩ := qbY x Y
 obtain ⟨d, hd⟩ := qbe x Y
 obtain ⟨c, hc⟩ := qbY y X
 obtain ⟨b, hb⟩ := qbe y X
 have ea : x / x.gcd Y = a := by (conv => lhs; lhs; rw [ha]); exact qa1 _ hg
 have ed : Y / x.gcd Y = d := by (conv => lhs; lhs; rw [hd]); exact qa1 _ hg
 have ec : y / y.gcd X = c := by (conv => lhs; lhs; rw [hc]); exact qa1 _ hh
 have eb : X / y.gcd X = b := by (conv => lhs; lhs; rw [hb]); exact qa1 _ hh
 have cad : a.Coprime d := by have := Nat.coprime_div_gcd_div_gcd hg; rwa [ea, ed] at this
 have ccb : c.Coprime b := by have := Nat.coprime_div_gcd_div_gcd hh; rwa [ec, eb] at this
 have cab : a.Coprime b := Nat.Coprime.coprime_dvd_left ⟨_, by rw [qaw]; exact ha⟩ (Nat.Coprime.coprime_dvd_right ⟨_, by rw [qaw]; exact hb⟩ h1)
 have ccd : c.Coprime d := Nat.Coprime.coprime_dvd_left ⟨_, by rw [qaw]; exact hc⟩ (Nat.Coprime.coprime_dvd_right ⟨_, by rw [qaw]; exact hd⟩ h2)
 rw [ea, eb, ec, ed]
 refine ⟨Nat.Coprime.mul_left (Nat.Coprime.mul_right cab cad) (Nat.Coprime.mul_right ccb ccd), ?_⟩
 generalize x.gcd Y = g at *
 generalize y.gcd X = h at *
 subst ha hb
 rw [hc, hd]
 simp only [qaw, qbz]
theorem qls {x y : Int} {l r X : Nat} (hx : x.natAbs.Coprime X) (hr : r ∣ X) (hlr : l.Coprime r) : (x * l + y * r).natAbs.Coprime r := by
 unfold Nat.Coprime
 have hd1 := qbY (x * l + y * r).natAbs r
 have hd2 := qbe (x * l + y * r).natAbs r
 generalize (x * l + y * r).natAbs.gcd r = d at *
 have h1 : (d : Int) ∣ x * l + y * r := Int.ofNat_dvd_left.2 hd1
 have h2 : (d : Int) ∣ y * r := Int.dvd_mul_of_dvd_right (Int.natCast_dvd_natCast.2 hd2)
 have h3 : (d : Int) ∣ x * l := (Int.dvd_add_left h2).1 h1
 have h4 : d ∣ x.natAbs * l := by have := Int.ofNat_dvd_left.1 h3; rwa [qaC, qat] at this
 have h5 : d.Coprime l := Nat.Coprime.coprime_dvd_left hd2 hlr.symm
 have h6 : d ∣ x.natAbs := h5.dvd_of_dvd_mul_right h4
 exact Nat.eq_one_of_dvd_one (by rw [← hx]; exact Nat.dvd_gcd h6 (Nat.dvd_trans hd2 hr))
theorem add_low {x y : Int} {X Y : Nat} (h1 : x.natAbs.Coprime X) (h2 : y.natAbs.Coprime Y) (hX : 0 < X) (T : Int) (hT : T = x * (Y / X.gcd Y : Nat) + y * (X / X.gcd Y : Nat)) :
  (T.natAbs / T.natAbs.gcd (X.gcd Y)).Coprime (X / X.gcd Y * (Y / T.natAbs.gcd (X.gcd Y))) ∧
   T.tdiv (T.natAbs.gcd (X.gcd Y) : Nat) * (X * Y : Nat) = (x * Y + y * X) * (X / X.gcd Y * (Y / T.natAbs.gcd (X.gcd Y)) : Nat) := by
 have hg : 0 < X.gcd Y := Nat.gcd_pos_of_pos_left _ hX
 have hh : 0 < T.natAbs.gcd (X.gcd Y) := qbq _ hg
 obtain ⟨r, hr⟩ := qbY X Y
 obtain ⟨l, hl⟩ := qbe X Y
 have er : X / X.gcd Y = r := by (conv => lhs; lhs; rw [hr]); exact qa1 _ hg
 have el : Y / X.gcd Y = l := by (conv => lhs; lhs; rw [hl]); exact qa1 _ hg
 have clr : r.Coprime l := by have := Nat.coprime_div_gcd_div_gcd hg; rwa [er, el] at this
 rw [er, el] at hT
 have cTr : T.natAbs.Coprime r := by rw [hT]; exact qls h1 ⟨_, by rw [qaw]; exact hr⟩ clr.symm
 have cTl : T.natAbs.Coprime l := by rw [hT, Int.add_comm]; exact qls h2 ⟨_, by rw [qaw]; exact hl⟩ clr
 obtain ⟨n, hn⟩ := qbY T.natAbs (X.gcd Y)
 obtain ⟨k, hk⟩ := qbe T.natAbs (X.gcd Y)
 have en : T.natAbs / T.natAbs.gcd (X.gcd Y) = n := by (conv => lhs; lhs; rw [hn]); exact qa1 _ hh
 have ek : X.gcd Y / T.natAbs.gcd (X.gcd Y) = k := by (conv => lhs; lhs; rw [hk]); exact qa1 _ hh
 have cnk : n.Coprime k := by have := Nat.coprime_div_gcd_div_gcd hh; rwa [en, ek] at this
 have hnT : n ∣ T.natAbs := ⟨_, by rw [qaw]; exact hn⟩
 have eY : Y / T.natAbs.gcd (X.gcd Y) = k * l := by
  conv => lhs; lhs; rw [hl, hk]
  rw [qaz]; exact qa1 _ hh
 rw [en, er, eY]
 refine ⟨Nat.Coprime.mul_right (Nat.Coprime.coprime_dvd_left hnT cTr) (Nat.Coprime.mul_right cnk (Nat.Coprime.coprime_dvd_left hnT cTl)), ?_⟩
 have eT : T = T.tdiv (T.natAbs.gcd (X.gcd Y) : Nat) * (T.natAbs.gcd (X.gcd Y) : Nat) := by
  refine (Int.tdiv_mul_cancel (Int.ofNat_dvd_left.2 (qbY _ _))).symm
 have hsum : x * Y + y * X = (X.gcd Y : Int) * T := by
  conv => lhs; rw [hl, hr]
  rw [hT]; push_cast; grind
 generalize T.tdiv (T.natAbs.gcd (X.gcd Y) : Nat) = t at *
 generalize T.natAbs.gcd (X.gcd Y) = h at *
 rw [hsum, eT]
 generalize X.gcd Y = g at *
 subst hk hr hl
 push_cast
 grind
end Go.Proofs.YtfminfgabiipjaaGreatDoor
