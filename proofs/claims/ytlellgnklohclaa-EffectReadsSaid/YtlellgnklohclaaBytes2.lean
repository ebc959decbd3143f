/- Plain: what was written is read back; what is short is not. -/
import Derived.Test.YtlellgnklohclaaBytes
namespace Go.Proofs.Ytlellgnklohclaa.L
open Go

theorem ofLe_leb (n : Int) (h : 0 ≤ n) : ∀ k, ofLe (leb n k) = n % 256 ^ k := by
  intro k
  induction k with
  | zero => simp [leb, ofLe]
  | succ k ih =>
    rw [leb_succ, ofLe_snoc, ih, leb_length, byteAt_toNat]
    have hp : (2 : Int) ^ (8 * k) = 256 ^ k := by rw [Int.pow_mul]; rfl
    rw [hp, Int.pow_succ]
    obtain ⟨m, rfl⟩ := Int.eq_ofNat_of_zero_le h
    have h2 : ((m % (256 ^ k * 256) : Nat) : Int) = ((m % 256 ^ k + 256 ^ k * (m / 256 ^ k % 256) : Nat) : Int) := by rw [Nat.mod_mul]
    simp only [Int.natCast_emod, Int.natCast_mul, Int.natCast_add, Int.natCast_pow, Int.natCast_ediv] at h2
    rw [Int.mul_comm _ ((256 : Int) ^ k)]
    exact h2.symm
theorem i64_u64 {n : Int} (h0 : -9223372036854775808 ≤ n) (h1 : n ≤ 9223372036854775807) : i64 (u64 n) = n := by
  unfold i64 u64; omega
theorem Rd.take_app (l r : List UInt8) : Rd.take ⟨l ++ r, false⟩ l.length = (some l, ⟨r, false⟩) := by
  simp [Rd.take]
theorem Rd.num_app (n : Int) (h : 0 ≤ n) (k : Nat) (r : List UInt8) : Rd.num ⟨leb n k ++ r, false⟩ k = (n % 256 ^ k, ⟨r, false⟩) := by
  have := Rd.take_app (leb n k) r
  rw [leb_length] at this
  unfold Rd.num
  rw [this]
  simp [ofLe_leb n h]
theorem Rd.int_app {n : Int} (h0 : -9223372036854775808 ≤ n) (h1 : n ≤ 9223372036854775807) (r : List UInt8) : Rd.int ⟨wInt n ++ r, false⟩ = (n, ⟨r, false⟩) := by
  have hu : 0 ≤ u64 n := Int.emod_nonneg _ (by decide)
  unfold Rd.int wInt
  rw [Rd.num_app (u64 n) hu 8 r]
  have : u64 n % 256 ^ 8 = u64 n := by
    have : (256 : Int) ^ 8 = 18446744073709551616 := by decide
    rw [this]; unfold u64; omega
  rw [this, i64_u64 h0 h1]
theorem bytesOf_length (s : ByteArray) : (bytesOf s).length = s.size := by simp [bytesOf]
theorem bytesOf_mk (s : ByteArray) : (⟨(bytesOf s).toArray⟩ : ByteArray) = s := by cases s; simp [bytesOf]
theorem Rd.text_app (s : ByteArray) (r : List UInt8) : Rd.text ⟨wText s ++ r, false⟩ = (⟨((bytesOf s).take 65535).toArray⟩, ⟨r, false⟩) := by
  unfold Rd.text wText
  rw [List.append_assoc, Rd.num_app _ (by omega) 2]
  have h2 : (256 : Int) ^ 2 = 65536 := by decide
  have e : (((min s.size 65535 : Nat) : Int) % 256 ^ 2).toNat = ((bytesOf s).take 65535).length := by
    rw [h2, List.length_take, bytesOf_length]; omega
  rw [e, Rd.take_app]
theorem Rd.text_app' (s : ByteArray) (hs : s.size ≤ 65535) (r : List UInt8) : Rd.text ⟨wText s ++ r, false⟩ = (s, ⟨r, false⟩) := by
  rw [Rd.text_app, List.take_of_length_le (by rw [bytesOf_length]; exact hs), bytesOf_mk]
theorem Rd.flag_app (b : Bool) (r : List UInt8) : Rd.flag ⟨wFlag b ++ r, false⟩ = (b, ⟨r, false⟩) := by
  cases b <;> simp [Rd.flag, wFlag, Rd.take]
theorem wInt_length (n : Int) : (wInt n).length = 8 := leb_length _ _
theorem wText_length (s : ByteArray) : (wText s).length = 2 + min s.size 65535 := by
  simp [wText, leb_length, bytesOf_length, Nat.min_comm]
theorem wFlag_length (b : Bool) : (wFlag b).length = 1 := rfl
/-! failed readers stay failed -/
theorem Rd.take_f {s : Rd} (h : s.f = true) (n : Nat) : (s.take n).2.f = true := by simp [Rd.take, h]
theorem Rd.num_f {s : Rd} (h : s.f = true) (n : Nat) : (s.num n) = (0, s) := by simp [Rd.num, Rd.take, h]
theorem Rd.int_f {s : Rd} (h : s.f = true) : s.int = (0, s) := by simp [Rd.int, Rd.num_f h, i64]
theorem Rd.text_f {s : Rd} (h : s.f = true) : s.text = (⟨#[]⟩, s) := by simp [Rd.text, Rd.num_f h, Rd.take, h]
theorem Rd.flag_f {s : Rd} (h : s.f = true) : s.flag = (false, s) := by simp [Rd.flag, Rd.take, h]
theorem Rd.done_f {s : Rd} (h : s.f = true) : s.done = false := by simp [Rd.done, h]
end Go.Proofs.Ytlellgnklohclaa.L
