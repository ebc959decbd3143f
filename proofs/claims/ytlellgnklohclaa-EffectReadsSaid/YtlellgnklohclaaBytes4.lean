/- Plain: the document's own reader, which keeps what is left when it fails, and how it stands to the other. -/
import Derived.Test.YtlellgnklohclaaBytes3
namespace Go.Proofs.Ytlellgnklohclaa.L
open Go

def Rd.rtake (s : Rd) (n : Nat) : List UInt8 × Rd := if s.f = true ∨ s.bs.length < n then ([], ⟨s.bs, true⟩) else (s.bs.take n, ⟨s.bs.drop n, false⟩)
def Rd.rint (s : Rd) : Int × Rd := (i64 (ofLe (s.rtake 8).1), (s.rtake 8).2)
def Rd.rtext (s : Rd) : ByteArray × Rd := if (s.rtake 2).1.length < 2 then (⟨#[]⟩, (s.rtake 2).2) else
  (⟨((s.rtake 2).2.rtake (ofLe (s.rtake 2).1).toNat).1.toArray⟩, ((s.rtake 2).2.rtake (ofLe (s.rtake 2).1).toNat).2)
def Rd.rflag (s : Rd) : Bool × Rd := match s.rtake 1 with
  | ([b], s') => (b.toNat == 1, if 1 < b.toNat then ⟨s'.bs, true⟩ else s')
  | (_, s') => (false, s')
theorem Rd.rtake_bad {s : Rd} {n : Nat} (h : s.f = true ∨ s.bs.length < n) : s.rtake n = ([], ⟨s.bs, true⟩) := by unfold Rd.rtake; rw [if_pos h]
theorem Rd.rtake_ok {s : Rd} {n : Nat} (h : s.f = false) (hl : n ≤ s.bs.length) : s.rtake n = (s.bs.take n, ⟨s.bs.drop n, false⟩) := by
  unfold Rd.rtake; rw [if_neg (by rw [h]; simp; omega)]
/-- Alike: both have failed, or both have the same left. -/
def Alike (s t : Rd) : Prop := s.f = t.f ∧ (s.f = false → s.bs = t.bs)
theorem Alike.refl (s : Rd) : Alike s s := ⟨rfl, fun _ => rfl⟩
theorem Alike.take {s t : Rd} (h : Alike s t) (n : Nat) : Alike (s.take n).2 (t.rtake n).2 ∧ ((s.take n).1 = none ∧ (t.rtake n).1 = [] ∧ (s.take n).2.f = true ∨ (∃ l, (s.take n).1 = some l ∧ (t.rtake n).1 = l ∧ l.length = n ∧ (s.take n).2.f = false)) := by
  obtain ⟨sb, sf⟩ := s
  obtain ⟨tb, tf⟩ := t
  obtain ⟨h1, h2⟩ := h
  obtain rfl : sf = tf := h1
  cases sf with
  | true =>
    rw [Rd.rtake_bad (.inl rfl)]
    exact ⟨⟨by simp [Rd.take], by simp [Rd.take]⟩, .inl ⟨by simp [Rd.take], rfl, by simp [Rd.take]⟩⟩
  | false =>
    obtain rfl : sb = tb := h2 rfl
    by_cases hl : sb.length < n
    · rw [Rd.rtake_bad (.inr hl)]
      exact ⟨⟨by simp [Rd.take, hl], by simp [Rd.take, hl]⟩, .inl ⟨by simp [Rd.take, hl], rfl, by simp [Rd.take, hl]⟩⟩
    · rw [Rd.rtake_ok rfl (by show n ≤ sb.length; omega)]
      exact ⟨⟨by simp [Rd.take, hl], by simp [Rd.take, hl]⟩, .inr ⟨sb.take n, by simp [Rd.take, hl], rfl, by rw [List.length_take]; omega, by simp [Rd.take, hl]⟩⟩
theorem Alike.int {s t : Rd} (h : Alike s t) : Alike s.int.2 t.rint.2 ∧ s.int.1 = t.rint.1 := by
  have h1 := h.take 8
  unfold Rd.int Rd.rint
  refine ⟨by rw [Rd.num_snd]; exact h1.1, congrArg i64 ?_⟩
  unfold Rd.num
  rcases h1.2 with ⟨e1, e2, _⟩ | ⟨l, e1, e2, _⟩
  · rw [e2]; split
    · rfl
    · rename_i e; rw [e] at e1; cases e1
  · rw [e2]; split
    · rename_i e; rw [e] at e1; cases e1
    · rename_i e; rw [e] at e1; cases e1; rfl
theorem Alike.text {s t : Rd} (h : Alike s t) : Alike s.text.2 t.rtext.2 ∧ s.text.1 = t.rtext.1 := by
  have h1 := h.take 2
  rcases h1 with ⟨ha, ⟨e1, e2, e3⟩ | ⟨l, e1, e2, e3, e4⟩⟩
  · have hn : s.num 2 = (0, (s.take 2).2) := by
      unfold Rd.num; split
      · rename_i e; rw [e]
      · rename_i e; rw [e] at e1; cases e1
    have hr : t.rtext = (⟨#[]⟩, (t.rtake 2).2) := by unfold Rd.rtext; rw [e2, if_pos (by decide)]
    have hs : s.text = (⟨#[]⟩, (s.take 2).2) := by 
      unfold Rd.text; rw [hn]
      show (match (s.take 2).2.take 0 with | (none, s') => ((⟨#[]⟩ : ByteArray), s') | (some l, s') => (⟨l.toArray⟩, s')) = _
      have : ∀ u : Rd, u.f = true → u.take 0 = (none, u) := fun u h => by simp [Rd.take, h]
      rw [this _ e3]
    rw [hr, hs]
    exact ⟨ha, rfl⟩
  · have hn : s.num 2 = (ofLe l, (s.take 2).2) := by
      unfold Rd.num; split
      · rename_i e; rw [e] at e1; cases e1
      · rename_i e; rw [e] at e1; cases e1; rw [e]
    have hr : t.rtext = (⟨((t.rtake 2).2.rtake (ofLe l).toNat).1.toArray⟩, ((t.rtake 2).2.rtake (ofLe l).toNat).2) := by
      unfold Rd.rtext; rw [e2, if_neg (by rw [e3]; decide)]
    have h2 := ha.take (ofLe l).toNat
    rw [hr]
    refine ⟨by rw [Rd.text_snd, hn]; exact h2.1, ?_⟩
    unfold Rd.text
    rw [hn]
    rcases h2.2 with ⟨f1, f2, _⟩ | ⟨k, f1, f2, _⟩
    · rw [f2]; split
      · rfl
      · rename_i e; rw [e] at f1; cases f1
    · rw [f2]; split
      · rename_i e; rw [e] at f1; cases f1
      · rename_i e; rw [e] at f1; cases f1; rfl
theorem Alike.flag {s t : Rd} (h : Alike s t) : Alike s.flag.2 t.rflag.2 ∧ s.flag.1 = t.rflag.1 := by
  have h1 := h.take 1
  rcases h1 with ⟨ha, ⟨e1, e2, e3⟩ | ⟨l, e1, e2, e3, e4⟩⟩
  · have hx : s.take 1 = (none, (s.take 1).2) := by rw [← e1]
    have hy : t.rtake 1 = ([], (t.rtake 1).2) := by rw [← e2]
    unfold Rd.flag Rd.rflag
    rw [hx, hy]
    exact ⟨ha, rfl⟩
  · obtain ⟨b, rfl⟩ := List.length_eq_one_iff.mp e3
    have hx : s.take 1 = (some [b], (s.take 1).2) := by rw [← e1]
    have hy : t.rtake 1 = ([b], (t.rtake 1).2) := by rw [← e2]
    unfold Rd.flag Rd.rflag
    rw [hx, hy]
    by_cases hb : 1 < b.toNat
    · simp only [hb, if_true]
      refine ⟨⟨rfl, fun h => by cases h⟩, ?_⟩
      have : ¬ b.toNat = 1 := by omega
      simp [this]
    · simp only [hb, if_false]
      exact ⟨ha, trivial⟩
theorem Alike.done {s t : Rd} (h : Alike s t) : s.done = t.done := by
  obtain ⟨sb, sf⟩ := s
  obtain ⟨tb, tf⟩ := t
  obtain ⟨h1, h2⟩ := h
  obtain rfl : sf = tf := h1
  cases sf with
  | true => rfl
  | false => obtain rfl : sb = tb := h2 rfl; rfl
theorem shl_or (n : Int) (c : UInt8) (h0 : 0 ≤ n) (h1 : n < 72057594037927936) :
    IntKind.u64.wrap ((BitVec.ofInt IntKind.u64.bits (IntKind.u64.wrap (n * 2 ^ (min (8 : Int).toNat IntKind.u64.bits))) ||| BitVec.ofInt IntKind.u64.bits (c.toNat : Int)).toNat) = c.toNat + 256 * n := by
  obtain ⟨m, rfl⟩ := Int.eq_ofNat_of_zero_le h0
  have hmin : min (8 : Int).toNat IntKind.u64.bits = 8 := by decide
  have hpow2 : (2 : Int) ^ 8 = 256 := by decide
  rw [hmin, hpow2]
  have hm : m < 72057594037927936 := by omega
  have hc : c.toNat < 256 := c.toNat_lt
  have hw : IntKind.u64.wrap ((m : Int) * 256) = ((256 * m : Nat) : Int) := by rw [wrap_u64 (by omega) (by omega)]; omega
  rw [hw]
  have hor : 256 * m ||| c.toNat = 256 * m + c.toNat := (Nat.two_pow_add_eq_or_of_lt (i := 8) hc m).symm
  have e1 : (BitVec.ofInt IntKind.u64.bits ((256 * m : Nat) : Int) ||| BitVec.ofInt IntKind.u64.bits (c.toNat : Int)).toNat = 256 * m + c.toNat := by
    show (BitVec.ofInt 64 ((256 * m : Nat) : Int) ||| BitVec.ofInt 64 (c.toNat : Int)).toNat = _
    rw [BitVec.toNat_or]
    have a1 : (BitVec.ofInt 64 ((256 * m : Nat) : Int)).toNat = 256 * m := by
      generalize hk : 256 * m = k
      rw [BitVec.ofInt_natCast, BitVec.toNat_ofNat, Nat.mod_eq_of_lt (by omega)]
    have a2 : (BitVec.ofInt 64 (c.toNat : Int)).toNat = c.toNat := by
      generalize hk : c.toNat = k at hc
      rw [BitVec.ofInt_natCast, BitVec.toNat_ofNat, Nat.mod_eq_of_lt (by omega)]
    rw [a1, a2, hor]
  rw [e1, wrap_u64 (by omega) (by omega)]
  omega
theorem ofLe_lt56 (l : List UInt8) (h : l.length ≤ 7) : ofLe l < 72057594037927936 := by
  have h1 := ofLe_lt l
  have h2 : ((256 ^ l.length : Nat) : Int) ≤ ((256 ^ 7 : Nat) : Int) := by have := Nat.pow_le_pow_right (n := 256) (by decide) h; omega
  rw [Int.natCast_pow] at h2
  have h3 : ((256 ^ 7 : Nat) : Int) = 72057594037927936 := by decide
  have h4 : ((256 : Nat) : Int) ^ l.length = (256 : Int) ^ l.length := rfl
  omega
theorem ofLe_drop (l : List UInt8) (m : Nat) (c : UInt8) (h : l[m]? = some c) : ofLe (l.drop m) = c.toNat + 256 * ofLe (l.drop (m + 1)) := by
  obtain ⟨hl, rfl⟩ := List.getElem?_eq_some_iff.mp h
  rw [List.drop_eq_getElem_cons hl]; rfl
end Go.Proofs.Ytlellgnklohclaa.L
