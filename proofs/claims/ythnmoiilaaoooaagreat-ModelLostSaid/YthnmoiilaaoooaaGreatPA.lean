/- Plain: numbers as bytes, a reader and a writer as functions on lists. No program in sight. Plain: what was written is read back; what is short is not. Plain: a reader over a proper beginning of another's bytes reads the same, or fails; it never comes to the end in order. Plain: the document's own reader, which keeps what is left when it fails, and how it stands to the other. -/
import Derived.Test.YthnmoiilaaoooaaGreatLB
/-! Plain: numbers as bytes, a reader and a writer as functions on lists. No program in sight. -/
namespace Go.Proofs.YthnmoiilaaoooaaGreat.L
open Go

/-- Byte number i of a number, the lowest first. -/
def byteAt (n : Int) (i : Nat) : UInt8 := UInt8.ofNat ((n / 2 ^ (8 * i)) % 256).toNat
def leb (n : Int) (k : Nat) : List UInt8 := (List.range k).map (byteAt n)
theorem leb_length (n : Int) (k : Nat) : (leb n k).length = k := by simp [leb]
theorem leb_succ (n : Int) (k : Nat) : leb n (k + 1) = leb n k ++ [byteAt n k] := by simp [leb, List.range_succ]
theorem byteAt_toNat (n : Int) (i : Nat) : ((byteAt n i).toNat : Int) = (n / 2 ^ (8 * i)) % 256 := by
  unfold byteAt
  have h0 : 0 ≤ (n / 2 ^ (8 * i)) % 256 := Int.emod_nonneg _ (by decide)
  have h1 : (n / 2 ^ (8 * i)) % 256 < 256 := Int.emod_lt_of_pos _ (by decide)
  rw [UInt8.toNat_ofNat']
  omega
theorem wrap_u8_mod (n : Int) : IntKind.u8.wrap n = n % 256 := by
  unfold IntKind.wrap
  simp [IntKind.bits, IntKind.signed]
theorem byte_wrap (n : Int) (i : Nat) (hi : i ≤ 8) (_h : 0 ≤ n) : IntKind.u8.wrap (n.fdiv (2 ^ (min (8 * (i : Int)).toNat 64))) = ((byteAt n i).toNat : Int) := by
  rw [byteAt_toNat, wrap_u8_mod]
  have e : min (8 * (i : Int)).toNat 64 = 8 * i := by omega
  rw [e]
  have hp : (0 : Int) ≤ 2 ^ (8 * i) := Int.le_of_lt (Int.pow_pos (by decide))
  rw [Int.fdiv_eq_ediv_of_nonneg _ hp]
theorem wrap_u64_mod (n : Int) : IntKind.u64.wrap n = n % 18446744073709551616 := by
  unfold IntKind.wrap
  simp [IntKind.bits, IntKind.signed]
/-- The number as the writer takes it. -/
def u64 (n : Int) : Int := n % 18446744073709551616
def i64 (n : Int) : Int := (n + 9223372036854775808) % 18446744073709551616 - 9223372036854775808
/-- What is written. -/
def wInt (n : Int) : List UInt8 := leb (u64 n) 8
def wText (s : ByteArray) : List UInt8 := leb ((min s.size 65535 : Nat) : Int) 2 ++ (bytesOf s).take 65535
def wFlag (b : Bool) : List UInt8 := [if b then 1 else 0]
/-- A reader: what is left, and whether it has failed. -/
structure Rd where
  bs : List UInt8
  f : Bool
def Rd.take (s : Rd) (n : Nat) : Option (List UInt8) × Rd :=
  if s.f then (none, s) else if s.bs.length < n then (none, ⟨[], true⟩) else (some (s.bs.take n), ⟨s.bs.drop n, false⟩)
/-- The number that bytes are, the lowest first. -/
def ofLe : List UInt8 → Int
  | [] => 0
  | b :: l => b.toNat + 256 * ofLe l
def Rd.num (s : Rd) (n : Nat) : Int × Rd := match s.take n with | (none, s') => (0, s') | (some l, s') => (ofLe l, s')
def Rd.int (s : Rd) : Int × Rd := (i64 (s.num 8).1, (s.num 8).2)
def Rd.text (s : Rd) : ByteArray × Rd := match (s.num 2).2.take (s.num 2).1.toNat with | (none, s') => (⟨#[]⟩, s') | (some l, s') => (⟨l.toArray⟩, s')
def Rd.flag (s : Rd) : Bool × Rd := match s.take 1 with
  | (some [b], s') => if 1 < b.toNat then (false, ⟨[], true⟩) else (b.toNat == 1, s')
  | (_, s') => (false, s')
def Rd.done (s : Rd) : Bool := !s.f && s.bs.isEmpty
theorem ofLe_nonneg (l : List UInt8) : 0 ≤ ofLe l := by
  induction l with
  | nil => simp [ofLe]
  | cons b l ih => simp only [ofLe]; omega
theorem ofLe_lt (l : List UInt8) : ofLe l < 256 ^ l.length := by
  induction l with
  | nil => simp [ofLe]
  | cons b l ih =>
    simp only [ofLe, List.length_cons, Int.pow_succ]
    have hb : (b.toNat : Int) < 256 := by have := b.toNat_lt; omega
    omega
theorem ofLe_snoc (l : List UInt8) (b : UInt8) : ofLe (l ++ [b]) = ofLe l + b.toNat * 256 ^ l.length := by
  induction l with
  | nil => simp [ofLe]
  | cons c l ih =>
    simp only [List.cons_append, ofLe, ih, List.length_cons, Int.pow_succ, Int.mul_add]
    rw [Int.mul_comm (256 ^ l.length : Int) 256, ← Int.mul_assoc, Int.mul_comm (256 : Int) (b.toNat : Int), ← Int.mul_assoc]
    omega
/-- 'n | c << 8i' where n lies below: a sum. -/
theorem or_shl (n : Int) (c : UInt8) (i : Nat) (hi : i < 8) (h0 : 0 ≤ n) (h1 : n < 256 ^ i) :
    IntKind.u64.wrap ((BitVec.ofInt IntKind.u64.bits n ||| BitVec.ofInt IntKind.u64.bits (IntKind.u64.wrap ((c.toNat : Int) * 2 ^ (min (8 * (i : Int)).toNat IntKind.u64.bits)))).toNat) = n + c.toNat * 256 ^ i := by
  obtain ⟨m, rfl⟩ := Int.eq_ofNat_of_zero_le h0
  have hmin : min (8 * (i : Int)).toNat IntKind.u64.bits = 8 * i := by show min _ 64 = _; omega
  rw [hmin]
  have hpow : (256 : Int) ^ i = ((2 ^ (8 * i) : Nat) : Int) := by
    rw [Nat.pow_mul, Int.natCast_pow]; rfl
  have hpow2 : (2 : Int) ^ (8 * i) = ((2 ^ (8 * i) : Nat) : Int) := by norm_cast
  rw [hpow] at h1 ⊢
  rw [hpow2]
  have hm : m < 2 ^ (8 * i) := by exact_mod_cast h1
  have hc : c.toNat < 256 := c.toNat_lt
  have hle : 2 ^ (8 * i) ≤ 2 ^ 56 := Nat.pow_le_pow_right (by decide) (by omega)
  have hprod : c.toNat * 2 ^ (8 * i) < 2 ^ 64 := by
    calc c.toNat * 2 ^ (8 * i) ≤ 255 * 2 ^ 56 := Nat.mul_le_mul (by omega) hle
      _ < 2 ^ 64 := by decide
  have hcast : (c.toNat : Int) * ((2 ^ (8 * i) : Nat) : Int) = ((c.toNat * 2 ^ (8 * i) : Nat) : Int) := by norm_cast
  rw [hcast]
  generalize hA : 2 ^ (8 * i) = A at *
  generalize hB : c.toNat * A = B at *
  have hw : IntKind.u64.wrap (B : Int) = B := wrap_u64 (by omega) (by omega)
  rw [hw]
  have hor : m ||| B = B + m := by
    rw [← hB, ← hA, Nat.mul_comm, Nat.or_comm]
    exact (Nat.two_pow_add_eq_or_of_lt (by rw [hA]; exact hm) _).symm
  have hsum : B + m < 2 ^ 64 := by
    rw [← hor]
    exact Nat.or_lt_two_pow (by omega) hprod
  have e1 : (BitVec.ofInt IntKind.u64.bits (m : Int) ||| BitVec.ofInt IntKind.u64.bits (B : Int)).toNat = B + m := by
    show (BitVec.ofInt 64 (m : Int) ||| BitVec.ofInt 64 (B : Int)).toNat = _
    rw [BitVec.toNat_or]
    have a1 : (BitVec.ofInt 64 (m : Int)).toNat = m := by simp; omega
    have a2 : (BitVec.ofInt 64 (B : Int)).toNat = B := by simp; omega
    rw [a1, a2, hor]
  rw [e1, wrap_u64 (by omega) (by omega)]
  omega
end Go.Proofs.YthnmoiilaaoooaaGreat.L
/-! Plain: what was written is read back; what is short is not. -/
namespace Go.Proofs.YthnmoiilaaoooaaGreat.L
open Go

theorem ofLe_leb (n : Int) (h : 0 ≤ n) : ∀ k, ofLe (leb n k) = n % 256 ^ k := by
  intro k
  induction k with
  | zero => simp [leb, ofLe]
  | succ k ih =>
    rw [leb_succ, ofLe_snoc, ih, leb_length, byteAt_toNat]
    have hp : (2 : Int) ^ (8 * k) = 256 ^ k := by rw [Int.pow_mul]; rfl
    rw [hp, Int.pow_succ]
    obtain ⟨m, rfl⟩ := Int.eq_ofNat_of_zero_le h
    have h2 : ((m % (256 ^ k * 256) : Nat) : Int) = ((m % 256 ^ k + 256 ^ k * (m / 256 ^ k % 256) : Nat) : Int) := by rw [Nat.mod_mul]
    simp only [Int.natCast_emod, Int.natCast_mul, Int.natCast_add, Int.natCast_pow, Int.natCast_ediv] at h2
    rw [Int.mul_comm _ ((256 : Int) ^ k)]
    exact h2.symm
theorem i64_u64 {n : Int} (h0 : -9223372036854775808 ≤ n) (h1 : n ≤ 9223372036854775807) : i64 (u64 n) = n := by
  unfold i64 u64; omega
theorem Rd.take_app (l r : List UInt8) : Rd.take ⟨l ++ r, false⟩ l.length = (some l, ⟨r, false⟩) := by
  simp [Rd.take]
theorem Rd.num_app (n : Int) (h : 0 ≤ n) (k : Nat) (r : List UInt8) : Rd.num ⟨leb n k ++ r, false⟩ k = (n % 256 ^ k, ⟨r, false⟩) := by
  have := Rd.take_app (leb n k) r
  rw [leb_length] at this
  unfold Rd.num
  rw [this]
  simp [ofLe_leb n h]
theorem Rd.int_app {n : Int} (h0 : -9223372036854775808 ≤ n) (h1 : n ≤ 9223372036854775807) (r : List UInt8) : Rd.int ⟨wInt n ++ r, false⟩ = (n, ⟨r, false⟩) := by
  have hu : 0 ≤ u64 n := Int.emod_nonneg _ (by decide)
  unfold Rd.int wInt
  rw [Rd.num_app (u64 n) hu 8 r]
  have : u64 n % 256 ^ 8 = u64 n := by
    have : (256 : Int) ^ 8 = 18446744073709551616 := by decide
    rw [this]; unfold u64; omega
  rw [this, i64_u64 h0 h1]
theorem bytesOf_length (s : ByteArray) : (bytesOf s).length = s.size := by simp [bytesOf]
theorem bytesOf_mk (s : ByteArray) : (⟨(bytesOf s).toArray⟩ : ByteArray) = s := by cases s; simp [bytesOf]
theorem Rd.text_app (s : ByteArray) (r : List UInt8) : Rd.text ⟨wText s ++ r, false⟩ = (⟨((bytesOf s).take 65535).toArray⟩, ⟨r, false⟩) := by
  unfold Rd.text wText
  rw [List.append_assoc, Rd.num_app _ (by omega) 2]
  have h2 : (256 : Int) ^ 2 = 65536 := by decide
  have e : (((min s.size 65535 : Nat) : Int) % 256 ^ 2).toNat = ((bytesOf s).take 65535).length := by
    rw [h2, List.length_take, bytesOf_length]; omega
  rw [e, Rd.take_app]
theorem Rd.text_app' (s : ByteArray) (hs : s.size ≤ 65535) (r : List UInt8) : Rd.text ⟨wText s ++ r, false⟩ = (s, ⟨r, false⟩) := by
  rw [Rd.text_app, List.take_of_length_le (by rw [bytesOf_length]; exact hs), bytesOf_mk]
theorem Rd.flag_app (b : Bool) (r : List UInt8) : Rd.flag ⟨wFlag b ++ r, false⟩ = (b, ⟨r, false⟩) := by
  cases b <;> simp [Rd.flag, wFlag, Rd.take]
theorem wInt_length (n : Int) : (wInt n).length = 8 := leb_length _ _
theorem wText_length (s : ByteArray) : (wText s).length = 2 + min s.size 65535 := by
  simp [wText, leb_length, bytesOf_length, Nat.min_comm]
theorem wFlag_length (b : Bool) : (wFlag b).length = 1 := rfl
/-! failed readers stay failed -/
theorem Rd.take_f {s : Rd} (h : s.f = true) (n : Nat) : (s.take n).2.f = true := by simp [Rd.take, h]
theorem Rd.num_f {s : Rd} (h : s.f = true) (n : Nat) : (s.num n) = (0, s) := by simp [Rd.num, Rd.take, h]
theorem Rd.int_f {s : Rd} (h : s.f = true) : s.int = (0, s) := by simp [Rd.int, Rd.num_f h, i64]
theorem Rd.text_f {s : Rd} (h : s.f = true) : s.text = (⟨#[]⟩, s) := by simp [Rd.text, Rd.num_f h, Rd.take, h]
theorem Rd.flag_f {s : Rd} (h : s.f = true) : s.flag = (false, s) := by simp [Rd.flag, Rd.take, h]
theorem Rd.done_f {s : Rd} (h : s.f = true) : s.done = false := by simp [Rd.done, h]
end Go.Proofs.YthnmoiilaaoooaaGreat.L
/-! Plain: a reader over a proper beginning of another's bytes reads the same, or fails; it never comes to the end in order. -/
namespace Go.Proofs.YthnmoiilaaoooaaGreat.L
open Go

/-- s has failed, or reads a proper beginning of what t reads. -/
def Pre (s t : Rd) : Prop := s.f = true ∨ (s.f = false ∧ t.f = false ∧ ∃ k, k ≠ [] ∧ t.bs = s.bs ++ k)
theorem Pre.done {s t : Rd} (h : Pre s t) (ht : t.bs = []) : s.done = false := by
  rcases h with h | ⟨_, _, k, hk, e⟩
  · exact Rd.done_f h
  · rw [ht] at e
    have : k = [] := (List.append_eq_nil_iff.mp e.symm).2
    exact absurd this hk
theorem Pre.take {s t : Rd} (h : Pre s t) (n : Nat) (ht : (t.take n).2.f = false) : Pre (s.take n).2 (t.take n).2 ∧ ((s.take n).2.f = true ∨ (s.take n).1 = (t.take n).1) := by
  rcases h with h | ⟨hs, ht', k, hk, e⟩
  · have := Rd.take_f h n
    exact ⟨.inl this, .inl this⟩
  · obtain ⟨sb, sf⟩ := s
    obtain ⟨tb, tf⟩ := t
    obtain rfl : sf = false := hs
    obtain rfl : tf = false := ht'
    obtain rfl : tb = sb ++ k := e
    by_cases hl : sb.length < n
    · have : (Rd.take ⟨sb, false⟩ n).2.f = true := by simp [Rd.take, hl]
      exact ⟨.inl this, .inl this⟩
    · have e1 : Rd.take ⟨sb, false⟩ n = (some (sb.take n), ⟨sb.drop n, false⟩) := by simp [Rd.take, hl]
      have hl2 : ¬ (sb ++ k).length < n := by simp; omega
      have e2 : Rd.take ⟨sb ++ k, false⟩ n = (some (sb.take n), ⟨sb.drop n ++ k, false⟩) := by
        have h3 : (sb ++ k).take n = sb.take n := List.take_append_of_le_length (by omega)
        have h4 : (sb ++ k).drop n = sb.drop n ++ k := List.drop_append_of_le_length (by omega)
        unfold Rd.take
        rw [if_neg (by simp), if_neg hl2, h3, h4]
      rw [e1, e2]
      exact ⟨.inr ⟨rfl, rfl, k, hk, rfl⟩, .inr rfl⟩
theorem Rd.num_snd (s : Rd) (n : Nat) : (s.num n).2 = (s.take n).2 := by
  unfold Rd.num
  split <;> simp_all
theorem Pre.num {s t : Rd} (h : Pre s t) (n : Nat) (ht : (t.num n).2.f = false) : Pre (s.num n).2 (t.num n).2 ∧ ((s.num n).2.f = true ∨ (s.num n).1 = (t.num n).1) := by
  rw [Rd.num_snd] at ht
  have := h.take n ht
  rw [Rd.num_snd, Rd.num_snd]
  refine ⟨this.1, this.2.imp id fun e => ?_⟩
  unfold Rd.num
  revert e
  cases hx : s.take n with
  | mk a b => cases hy : t.take n with
    | mk c d => intro e; obtain rfl : a = c := e; cases a <;> rfl
theorem Pre.int {s t : Rd} (h : Pre s t) (ht : t.int.2.f = false) : Pre s.int.2 t.int.2 ∧ (s.int.2.f = true ∨ s.int.1 = t.int.1) := by
  have := h.num 8 ht
  exact ⟨this.1, this.2.imp id fun e => congrArg i64 e⟩
theorem Rd.text_snd (s : Rd) : s.text.2 = ((s.num 2).2.take (s.num 2).1.toNat).2 := by
  unfold Rd.text
  split <;> simp_all
theorem Pre.text {s t : Rd} (h : Pre s t) (ht : t.text.2.f = false) : Pre s.text.2 t.text.2 ∧ (s.text.2.f = true ∨ s.text.1 = t.text.1) := by
  rw [Rd.text_snd] at ht
  have hn : (t.num 2).2.f = false := by
    cases hf : (t.num 2).2.f with
    | false => rfl
    | true => rw [Rd.take_f hf] at ht; cases ht
  have h1 := h.num 2 hn
  rw [Rd.text_snd, Rd.text_snd]
  rcases h1.2 with hf | hv
  · have := Rd.take_f hf (s.num 2).1.toNat
    exact ⟨.inl this, .inl this⟩
  · have h2 := h1.1.take _ ht
    rw [← hv] at h2 ⊢
    refine ⟨h2.1, h2.2.imp id fun e => ?_⟩
    unfold Rd.text
    rw [hv] at e ⊢
    revert e
    cases hx : (s.num 2).2.take (t.num 2).1.toNat with
    | mk a b => cases hy : (t.num 2).2.take (t.num 2).1.toNat with
      | mk c d => intro e; obtain rfl : a = c := e; cases a <;> rfl
theorem Pre.flag {s t : Rd} (h : Pre s t) (ht : t.flag.2.f = false) : Pre s.flag.2 t.flag.2 ∧ (s.flag.2.f = true ∨ s.flag.1 = t.flag.1) := by
  rcases h with h | ⟨hs, ht', k, hk, e⟩
  · rw [Rd.flag_f h]; exact ⟨.inl h, .inl h⟩
  · obtain ⟨sb, sf⟩ := s
    obtain ⟨tb, tf⟩ := t
    obtain rfl : sf = false := hs
    obtain rfl : tf = false := ht'
    obtain rfl : tb = sb ++ k := e
    cases sb with
    | nil =>
      have : (Rd.mk [] false).flag.2.f = true := by simp [Rd.flag, Rd.take]
      exact ⟨.inl this, .inl this⟩
    | cons c l =>
      by_cases h1 : 1 < c.toNat
      · have : (Rd.mk (c :: l) false).flag.2.f = true := by simp [Rd.flag, Rd.take, h1]
        exact ⟨.inl this, .inl this⟩
      · have e1 : (Rd.mk (c :: l) false).flag = (c.toNat == 1, ⟨l, false⟩) := by simp [Rd.flag, Rd.take, h1]
        have e2 : (Rd.mk (c :: l ++ k) false).flag = (c.toNat == 1, ⟨l ++ k, false⟩) := by simp [Rd.flag, Rd.take, h1]
        rw [e1, e2]
        exact ⟨.inr ⟨rfl, rfl, k, hk, rfl⟩, .inr rfl⟩
theorem Pre.cut (l : List UInt8) (n : Nat) (h : n < l.length) : Pre ⟨l.take n, false⟩ ⟨l, false⟩ :=
  .inr ⟨rfl, rfl, l.drop n, by intro e; have := congrArg List.length e; simp at this; omega, (List.take_append_drop n l).symm⟩
end Go.Proofs.YthnmoiilaaoooaaGreat.L
/-! Plain: the document's own reader, which keeps what is left when it fails, and how it stands to the other. -/
namespace Go.Proofs.YthnmoiilaaoooaaGreat.L
open Go

def Rd.rtake (s : Rd) (n : Nat) : List UInt8 × Rd := if s.f = true ∨ s.bs.length < n then ([], ⟨s.bs, true⟩) else (s.bs.take n, ⟨s.bs.drop n, false⟩)
def Rd.rint (s : Rd) : Int × Rd := (i64 (ofLe (s.rtake 8).1), (s.rtake 8).2)
def Rd.rtext (s : Rd) : ByteArray × Rd := if (s.rtake 2).1.length < 2 then (⟨#[]⟩, (s.rtake 2).2) else
  (⟨((s.rtake 2).2.rtake (ofLe (s.rtake 2).1).toNat).1.toArray⟩, ((s.rtake 2).2.rtake (ofLe (s.rtake 2).1).toNat).2)
def Rd.rflag (s : Rd) : Bool × Rd := match s.rtake 1 with
  | ([b], s') => (b.toNat == 1, if 1 < b.toNat then ⟨s'.bs, true⟩ else s')
  | (_, s') => (false, s')
theorem Rd.rtake_bad {s : Rd} {n : Nat} (h : s.f = true ∨ s.bs.length < n) : s.rtake n = ([], ⟨s.bs, true⟩) := by unfold Rd.rtake; rw [if_pos h]
theorem Rd.rtake_ok {s : Rd} {n : Nat} (h : s.f = false) (hl : n ≤ s.bs.length) : s.rtake n = (s.bs.take n, ⟨s.bs.drop n, false⟩) := by
  unfold Rd.rtake; rw [if_neg (by rw [h]; simp; omega)]
/-- Alike: both have failed, or both have the same left. -/
def Alike (s t : Rd) : Prop := s.f = t.f ∧ (s.f = false → s.bs = t.bs)
theorem Alike.refl (s : Rd) : Alike s s := ⟨rfl, fun _ => rfl⟩
theorem Alike.take {s t : Rd} (h : Alike s t) (n : Nat) : Alike (s.take n).2 (t.rtake n).2 ∧ ((s.take n).1 = none ∧ (t.rtake n).1 = [] ∧ (s.take n).2.f = true ∨ (∃ l, (s.take n).1 = some l ∧ (t.rtake n).1 = l ∧ l.length = n ∧ (s.take n).2.f = false)) := by
  obtain ⟨sb, sf⟩ := s
  obtain ⟨tb, tf⟩ := t
  obtain ⟨h1, h2⟩ := h
  obtain rfl : sf = tf := h1
  cases sf with
  | true =>
    rw [Rd.rtake_bad (.inl rfl)]
    exact ⟨⟨by simp [Rd.take], by simp [Rd.take]⟩, .inl ⟨by simp [Rd.take], rfl, by simp [Rd.take]⟩⟩
  | false =>
    obtain rfl : sb = tb := h2 rfl
    by_cases hl : sb.length < n
    · rw [Rd.rtake_bad (.inr hl)]
      exact ⟨⟨by simp [Rd.take, hl], by simp [Rd.take, hl]⟩, .inl ⟨by simp [Rd.take, hl], rfl, by simp [Rd.take, hl]⟩⟩
    · rw [Rd.rtake_ok rfl (by show n ≤ sb.length; omega)]
      exact ⟨⟨by simp [Rd.take, hl], by simp [Rd.take, hl]⟩, .inr ⟨sb.take n, by simp [Rd.take, hl], rfl, by rw [List.length_take]; omega, by simp [Rd.take, hl]⟩⟩
theorem Alike.int {s t : Rd} (h : Alike s t) : Alike s.int.2 t.rint.2 ∧ s.int.1 = t.rint.1 := by
  have h1 := h.take 8
  unfold Rd.int Rd.rint
  refine ⟨by rw [Rd.num_snd]; exact h1.1, congrArg i64 ?_⟩
  unfold Rd.num
  rcases h1.2 with ⟨e1, e2, _⟩ | ⟨l, e1, e2, _⟩
  · rw [e2]; split
    · rfl
    · rename_i e; rw [e] at e1; cases e1
  · rw [e2]; split
    · rename_i e; rw [e] at e1; cases e1
    · rename_i e; rw [e] at e1; cases e1; rfl
theorem Alike.text {s t : Rd} (h : Alike s t) : Alike s.text.2 t.rtext.2 ∧ s.text.1 = t.rtext.1 := by
  have h1 := h.take 2
  rcases h1 with ⟨ha, ⟨e1, e2, e3⟩ | ⟨l, e1, e2, e3, e4⟩⟩
  · have hn : s.num 2 = (0, (s.take 2).2) := by
      unfold Rd.num; split
      · rename_i e; rw [e]
      · rename_i e; rw [e] at e1; cases e1
    have hr : t.rtext = (⟨#[]⟩, (t.rtake 2).2) := by unfold Rd.rtext; rw [e2, if_pos (by decide)]
    have hs : s.text = (⟨#[]⟩, (s.take 2).2) := by 
      unfold Rd.text; rw [hn]
      show (match (s.take 2).2.take 0 with | (none, s') => ((⟨#[]⟩ : ByteArray), s') | (some l, s') => (⟨l.toArray⟩, s')) = _
      have : ∀ u : Rd, u.f = true → u.take 0 = (none, u) := fun u h => by simp [Rd.take, h]
      rw [this _ e3]
    rw [hr, hs]
    exact ⟨ha, rfl⟩
  · have hn : s.num 2 = (ofLe l, (s.take 2).2) := by
      unfold Rd.num; split
      · rename_i e; rw [e] at e1; cases e1
      · rename_i e; rw [e] at e1; cases e1; rw [e]
    have hr : t.rtext = (⟨((t.rtake 2).2.rtake (ofLe l).toNat).1.toArray⟩, ((t.rtake 2).2.rtake (ofLe l).toNat).2) := by
      unfold Rd.rtext; rw [e2, if_neg (by rw [e3]; decide)]
    have h2 := ha.take (ofLe l).toNat
    rw [hr]
    refine ⟨by rw [Rd.text_snd, hn]; exact h2.1, ?_⟩
    unfold Rd.text
    rw [hn]
    rcases h2.2 with ⟨f1, f2, _⟩ | ⟨k, f1, f2, _⟩
    · rw [f2]; split
      · rfl
      · rename_i e; rw [e] at f1; cases f1
    · rw [f2]; split
      · rename_i e; rw [e] at f1; cases f1
      · rename_i e; rw [e] at f1; cases f1; rfl
theorem Alike.flag {s t : Rd} (h : Alike s t) : Alike s.flag.2 t.rflag.2 ∧ s.flag.1 = t.rflag.1 := by
  have h1 := h.take 1
  rcases h1 with ⟨ha, ⟨e1, e2, e3⟩ | ⟨l, e1, e2, e3, e4⟩⟩
  · have hx : s.take 1 = (none, (s.take 1).2) := by rw [← e1]
    have hy : t.rtake 1 = ([], (t.rtake 1).2) := by rw [← e2]
    unfold Rd.flag Rd.rflag
    rw [hx, hy]
    exact ⟨ha, rfl⟩
  · obtain ⟨b, rfl⟩ := List.length_eq_one_iff.mp e3
    have hx : s.take 1 = (some [b], (s.take 1).2) := by rw [← e1]
    have hy : t.rtake 1 = ([b], (t.rtake 1).2) := by rw [← e2]
    unfold Rd.flag Rd.rflag
    rw [hx, hy]
    by_cases hb : 1 < b.toNat
    · simp only [hb, if_true]
      refine ⟨⟨rfl, fun h => by cases h⟩, ?_⟩
      have : ¬ b.toNat = 1 := by omega
      simp [this]
    · simp only [hb, if_false]
      exact ⟨ha, trivial⟩
theorem Alike.done {s t : Rd} (h : Alike s t) : s.done = t.done := by
  obtain ⟨sb, sf⟩ := s
  obtain ⟨tb, tf⟩ := t
  obtain ⟨h1, h2⟩ := h
  obtain rfl : sf = tf := h1
  cases sf with
  | true => rfl
  | false => obtain rfl : sb = tb := h2 rfl; rfl
theorem shl_or (n : Int) (c : UInt8) (h0 : 0 ≤ n) (h1 : n < 72057594037927936) :
    IntKind.u64.wrap ((BitVec.ofInt IntKind.u64.bits (IntKind.u64.wrap (n * 2 ^ (min (8 : Int).toNat IntKind.u64.bits))) ||| BitVec.ofInt IntKind.u64.bits (c.toNat : Int)).toNat) = c.toNat + 256 * n := by
  obtain ⟨m, rfl⟩ := Int.eq_ofNat_of_zero_le h0
  have hmin : min (8 : Int).toNat IntKind.u64.bits = 8 := by decide
  have hpow2 : (2 : Int) ^ 8 = 256 := by decide
  rw [hmin, hpow2]
  have hm : m < 72057594037927936 := by omega
  have hc : c.toNat < 256 := c.toNat_lt
  have hw : IntKind.u64.wrap ((m : Int) * 256) = ((256 * m : Nat) : Int) := by rw [wrap_u64 (by omega) (by omega)]; omega
  rw [hw]
  have hor : 256 * m ||| c.toNat = 256 * m + c.toNat := (Nat.two_pow_add_eq_or_of_lt (i := 8) hc m).symm
  have e1 : (BitVec.ofInt IntKind.u64.bits ((256 * m : Nat) : Int) ||| BitVec.ofInt IntKind.u64.bits (c.toNat : Int)).toNat = 256 * m + c.toNat := by
    show (BitVec.ofInt 64 ((256 * m : Nat) : Int) ||| BitVec.ofInt 64 (c.toNat : Int)).toNat = _
    rw [BitVec.toNat_or]
    have a1 : (BitVec.ofInt 64 ((256 * m : Nat) : Int)).toNat = 256 * m := by
      generalize hk : 256 * m = k
      rw [BitVec.ofInt_natCast, BitVec.toNat_ofNat, Nat.mod_eq_of_lt (by omega)]
    have a2 : (BitVec.ofInt 64 (c.toNat : Int)).toNat = c.toNat := by
      generalize hk : c.toNat = k at hc
      rw [BitVec.ofInt_natCast, BitVec.toNat_ofNat, Nat.mod_eq_of_lt (by omega)]
    rw [a1, a2, hor]
  rw [e1, wrap_u64 (by omega) (by omega)]
  omega
theorem ofLe_lt56 (l : List UInt8) (h : l.length ≤ 7) : ofLe l < 72057594037927936 := by
  have h1 := ofLe_lt l
  have h2 : ((256 ^ l.length : Nat) : Int) ≤ ((256 ^ 7 : Nat) : Int) := by have := Nat.pow_le_pow_right (n := 256) (by decide) h; omega
  rw [Int.natCast_pow] at h2
  have h3 : ((256 ^ 7 : Nat) : Int) = 72057594037927936 := by decide
  have h4 : ((256 : Nat) : Int) ^ l.length = (256 : Int) ^ l.length := rfl
  omega
theorem ofLe_drop (l : List UInt8) (m : Nat) (c : UInt8) (h : l[m]? = some c) : ofLe (l.drop m) = c.toNat + 256 * ofLe (l.drop (m + 1)) := by
  obtain ⟨hl, rfl⟩ := List.getElem?_eq_some_iff.mp h
  rw [List.drop_eq_getElem_cons hl]; rfl
end Go.Proofs.YthnmoiilaaoooaaGreat.L
