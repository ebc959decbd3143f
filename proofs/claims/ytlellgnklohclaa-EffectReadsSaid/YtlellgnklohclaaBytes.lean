/- Plain: numbers as bytes, a reader and a writer as functions on lists. No program in sight. -/
import Derived.Test.YtlellgnklohclaaOps6
namespace Go.Proofs.Ytlellgnklohclaa.L
open Go

/-- Byte number i of a number, the lowest first. -/
def byteAt (n : Int) (i : Nat) : UInt8 := UInt8.ofNat ((n / 2 ^ (8 * i)) % 256).toNat
def leb (n : Int) (k : Nat) : List UInt8 := (List.range k).map (byteAt n)
theorem leb_length (n : Int) (k : Nat) : (leb n k).length = k := by simp [leb]
theorem leb_succ (n : Int) (k : Nat) : leb n (k + 1) = leb n k ++ [byteAt n k] := by simp [leb, List.range_succ]
theorem byteAt_toNat (n : Int) (i : Nat) : ((byteAt n i).toNat : Int) = (n / 2 ^ (8 * i)) % 256 := by
  unfold byteAt
  have h0 : 0 ≤ (n / 2 ^ (8 * i)) % 256 := Int.emod_nonneg _ (by decide)
  have h1 : (n / 2 ^ (8 * i)) % 256 < 256 := Int.emod_lt_of_pos _ (by decide)
  rw [UInt8.toNat_ofNat']
  omega
theorem wrap_u8_mod (n : Int) : IntKind.u8.wrap n = n % 256 := by
  unfold IntKind.wrap
  simp [IntKind.bits, IntKind.signed]
theorem byte_wrap (n : Int) (i : Nat) (hi : i ≤ 8) (_h : 0 ≤ n) : IntKind.u8.wrap (n.fdiv (2 ^ (min (8 * (i : Int)).toNat 64))) = ((byteAt n i).toNat : Int) := by
  rw [byteAt_toNat, wrap_u8_mod]
  have e : min (8 * (i : Int)).toNat 64 = 8 * i := by omega
  rw [e]
  have hp : (0 : Int) ≤ 2 ^ (8 * i) := Int.le_of_lt (Int.pow_pos (by decide))
  rw [Int.fdiv_eq_ediv_of_nonneg _ hp]
theorem wrap_u64_mod (n : Int) : IntKind.u64.wrap n = n % 18446744073709551616 := by
  unfold IntKind.wrap
  simp [IntKind.bits, IntKind.signed]
/-- The number as the writer takes it. -/
def u64 (n : Int) : Int := n % 18446744073709551616
def i64 (n : Int) : Int := (n + 9223372036854775808) % 18446744073709551616 - 9223372036854775808
/-- What is written. -/
def wInt (n : Int) : List UInt8 := leb (u64 n) 8
def wText (s : ByteArray) : List UInt8 := leb ((min s.size 65535 : Nat) : Int) 2 ++ (bytesOf s).take 65535
def wFlag (b : Bool) : List UInt8 := [if b then 1 else 0]
/-- A reader: what is left, and whether it has failed. -/
structure Rd where
  bs : List UInt8
  f : Bool
def Rd.take (s : Rd) (n : Nat) : Option (List UInt8) × Rd :=
  if s.f then (none, s) else if s.bs.length < n then (none, ⟨[], true⟩) else (some (s.bs.take n), ⟨s.bs.drop n, false⟩)
/-- The number that bytes are, the lowest first. -/
def ofLe : List UInt8 → Int
  | [] => 0
  | b :: l => b.toNat + 256 * ofLe l
def Rd.num (s : Rd) (n : Nat) : Int × Rd := match s.take n with | (none, s') => (0, s') | (some l, s') => (ofLe l, s')
def Rd.int (s : Rd) : Int × Rd := (i64 (s.num 8).1, (s.num 8).2)
def Rd.text (s : Rd) : ByteArray × Rd := match (s.num 2).2.take (s.num 2).1.toNat with | (none, s') => (⟨#[]⟩, s') | (some l, s') => (⟨l.toArray⟩, s')
def Rd.flag (s : Rd) : Bool × Rd := match s.take 1 with
  | (some [b], s') => if 1 < b.toNat then (false, ⟨[], true⟩) else (b.toNat == 1, s')
  | (_, s') => (false, s')
def Rd.done (s : Rd) : Bool := !s.f && s.bs.isEmpty
theorem ofLe_nonneg (l : List UInt8) : 0 ≤ ofLe l := by
  induction l with
  | nil => simp [ofLe]
  | cons b l ih => simp only [ofLe]; omega
theorem ofLe_lt (l : List UInt8) : ofLe l < 256 ^ l.length := by
  induction l with
  | nil => simp [ofLe]
  | cons b l ih =>
    simp only [ofLe, List.length_cons, Int.pow_succ]
    have hb : (b.toNat : Int) < 256 := by have := b.toNat_lt; omega
    omega
theorem ofLe_snoc (l : List UInt8) (b : UInt8) : ofLe (l ++ [b]) = ofLe l + b.toNat * 256 ^ l.length := by
  induction l with
  | nil => simp [ofLe]
  | cons c l ih =>
    simp only [List.cons_append, ofLe, ih, List.length_cons, Int.pow_succ, Int.mul_add]
    rw [Int.mul_comm (256 ^ l.length : Int) 256, ← Int.mul_assoc, Int.mul_comm (256 : Int) (b.toNat : Int), ← Int.mul_assoc]
    omega
/-- 'n | c << 8i' where n lies below: a sum. -/
theorem or_shl (n : Int) (c : UInt8) (i : Nat) (hi : i < 8) (h0 : 0 ≤ n) (h1 : n < 256 ^ i) :
    IntKind.u64.wrap ((BitVec.ofInt IntKind.u64.bits n ||| BitVec.ofInt IntKind.u64.bits (IntKind.u64.wrap ((c.toNat : Int) * 2 ^ (min (8 * (i : Int)).toNat IntKind.u64.bits)))).toNat) = n + c.toNat * 256 ^ i := by
  obtain ⟨m, rfl⟩ := Int.eq_ofNat_of_zero_le h0
  have hmin : min (8 * (i : Int)).toNat IntKind.u64.bits = 8 * i := by show min _ 64 = _; omega
  rw [hmin]
  have hpow : (256 : Int) ^ i = ((2 ^ (8 * i) : Nat) : Int) := by
    rw [Nat.pow_mul, Int.natCast_pow]; rfl
  have hpow2 : (2 : Int) ^ (8 * i) = ((2 ^ (8 * i) : Nat) : Int) := by norm_cast
  rw [hpow] at h1 ⊢
  rw [hpow2]
  have hm : m < 2 ^ (8 * i) := by exact_mod_cast h1
  have hc : c.toNat < 256 := c.toNat_lt
  have hle : 2 ^ (8 * i) ≤ 2 ^ 56 := Nat.pow_le_pow_right (by decide) (by omega)
  have hprod : c.toNat * 2 ^ (8 * i) < 2 ^ 64 := by
    calc c.toNat * 2 ^ (8 * i) ≤ 255 * 2 ^ 56 := Nat.mul_le_mul (by omega) hle
      _ < 2 ^ 64 := by decide
  have hcast : (c.toNat : Int) * ((2 ^ (8 * i) : Nat) : Int) = ((c.toNat * 2 ^ (8 * i) : Nat) : Int) := by norm_cast
  rw [hcast]
  generalize hA : 2 ^ (8 * i) = A at *
  generalize hB : c.toNat * A = B at *
  have hw : IntKind.u64.wrap (B : Int) = B := wrap_u64 (by omega) (by omega)
  rw [hw]
  have hor : m ||| B = B + m := by
    rw [← hB, ← hA, Nat.mul_comm, Nat.or_comm]
    exact (Nat.two_pow_add_eq_or_of_lt (by rw [hA]; exact hm) _).symm
  have hsum : B + m < 2 ^ 64 := by
    rw [← hor]
    exact Nat.or_lt_two_pow (by omega) hprod
  have e1 : (BitVec.ofInt IntKind.u64.bits (m : Int) ||| BitVec.ofInt IntKind.u64.bits (B : Int)).toNat = B + m := by
    show (BitVec.ofInt 64 (m : Int) ||| BitVec.ofInt 64 (B : Int)).toNat = _
    rw [BitVec.toNat_or]
    have a1 : (BitVec.ofInt 64 (m : Int)).toNat = m := by simp; omega
    have a2 : (BitVec.ofInt 64 (B : Int)).toNat = B := by simp; omega
    rw [a1, a2, hor]
  rw [e1, wrap_u64 (by omega) (by omega)]
  omega
end Go.Proofs.Ytlellgnklohclaa.L
