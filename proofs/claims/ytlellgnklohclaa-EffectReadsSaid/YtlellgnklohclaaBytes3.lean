/- Plain: a reader over a proper beginning of another's bytes reads the same, or fails; it never comes to the end in order. -/
import Derived.Test.YtlellgnklohclaaBytes2
namespace Go.Proofs.Ytlellgnklohclaa.L
open Go

/-- s has failed, or reads a proper beginning of what t reads. -/
def Pre (s t : Rd) : Prop := s.f = true ∨ (s.f = false ∧ t.f = false ∧ ∃ k, k ≠ [] ∧ t.bs = s.bs ++ k)
theorem Pre.done {s t : Rd} (h : Pre s t) (ht : t.bs = []) : s.done = false := by
  rcases h with h | ⟨_, _, k, hk, e⟩
  · exact Rd.done_f h
  · rw [ht] at e
    have : k = [] := (List.append_eq_nil_iff.mp e.symm).2
    exact absurd this hk
theorem Pre.take {s t : Rd} (h : Pre s t) (n : Nat) (ht : (t.take n).2.f = false) : Pre (s.take n).2 (t.take n).2 ∧ ((s.take n).2.f = true ∨ (s.take n).1 = (t.take n).1) := by
  rcases h with h | ⟨hs, ht', k, hk, e⟩
  · have := Rd.take_f h n
    exact ⟨.inl this, .inl this⟩
  · obtain ⟨sb, sf⟩ := s
    obtain ⟨tb, tf⟩ := t
    obtain rfl : sf = false := hs
    obtain rfl : tf = false := ht'
    obtain rfl : tb = sb ++ k := e
    by_cases hl : sb.length < n
    · have : (Rd.take ⟨sb, false⟩ n).2.f = true := by simp [Rd.take, hl]
      exact ⟨.inl this, .inl this⟩
    · have e1 : Rd.take ⟨sb, false⟩ n = (some (sb.take n), ⟨sb.drop n, false⟩) := by simp [Rd.take, hl]
      have hl2 : ¬ (sb ++ k).length < n := by simp; omega
      have e2 : Rd.take ⟨sb ++ k, false⟩ n = (some (sb.take n), ⟨sb.drop n ++ k, false⟩) := by
        have h3 : (sb ++ k).take n = sb.take n := List.take_append_of_le_length (by omega)
        have h4 : (sb ++ k).drop n = sb.drop n ++ k := List.drop_append_of_le_length (by omega)
        unfold Rd.take
        rw [if_neg (by simp), if_neg hl2, h3, h4]
      rw [e1, e2]
      exact ⟨.inr ⟨rfl, rfl, k, hk, rfl⟩, .inr rfl⟩
theorem Rd.num_snd (s : Rd) (n : Nat) : (s.num n).2 = (s.take n).2 := by
  unfold Rd.num
  split <;> simp_all
theorem Pre.num {s t : Rd} (h : Pre s t) (n : Nat) (ht : (t.num n).2.f = false) : Pre (s.num n).2 (t.num n).2 ∧ ((s.num n).2.f = true ∨ (s.num n).1 = (t.num n).1) := by
  rw [Rd.num_snd] at ht
  have := h.take n ht
  rw [Rd.num_snd, Rd.num_snd]
  refine ⟨this.1, this.2.imp id fun e => ?_⟩
  unfold Rd.num
  revert e
  cases hx : s.take n with
  | mk a b => cases hy : t.take n with
    | mk c d => intro e; obtain rfl : a = c := e; cases a <;> rfl
theorem Pre.int {s t : Rd} (h : Pre s t) (ht : t.int.2.f = false) : Pre s.int.2 t.int.2 ∧ (s.int.2.f = true ∨ s.int.1 = t.int.1) := by
  have := h.num 8 ht
  exact ⟨this.1, this.2.imp id fun e => congrArg i64 e⟩
theorem Rd.text_snd (s : Rd) : s.text.2 = ((s.num 2).2.take (s.num 2).1.toNat).2 := by
  unfold Rd.text
  split <;> simp_all
theorem Pre.text {s t : Rd} (h : Pre s t) (ht : t.text.2.f = false) : Pre s.text.2 t.text.2 ∧ (s.text.2.f = true ∨ s.text.1 = t.text.1) := by
  rw [Rd.text_snd] at ht
  have hn : (t.num 2).2.f = false := by
    cases hf : (t.num 2).2.f with
    | false => rfl
    | true => rw [Rd.take_f hf] at ht; cases ht
  have h1 := h.num 2 hn
  rw [Rd.text_snd, Rd.text_snd]
  rcases h1.2 with hf | hv
  · have := Rd.take_f hf (s.num 2).1.toNat
    exact ⟨.inl this, .inl this⟩
  · have h2 := h1.1.take _ ht
    rw [← hv] at h2 ⊢
    refine ⟨h2.1, h2.2.imp id fun e => ?_⟩
    unfold Rd.text
    rw [hv] at e ⊢
    revert e
    cases hx : (s.num 2).2.take (t.num 2).1.toNat with
    | mk a b => cases hy : (t.num 2).2.take (t.num 2).1.toNat with
      | mk c d => intro e; obtain rfl : a = c := e; cases a <;> rfl
theorem Pre.flag {s t : Rd} (h : Pre s t) (ht : t.flag.2.f = false) : Pre s.flag.2 t.flag.2 ∧ (s.flag.2.f = true ∨ s.flag.1 = t.flag.1) := by
  rcases h with h | ⟨hs, ht', k, hk, e⟩
  · rw [Rd.flag_f h]; exact ⟨.inl h, .inl h⟩
  · obtain ⟨sb, sf⟩ := s
    obtain ⟨tb, tf⟩ := t
    obtain rfl : sf = false := hs
    obtain rfl : tf = false := ht'
    obtain rfl : tb = sb ++ k := e
    cases sb with
    | nil =>
      have : (Rd.mk [] false).flag.2.f = true := by simp [Rd.flag, Rd.take]
      exact ⟨.inl this, .inl this⟩
    | cons c l =>
      by_cases h1 : 1 < c.toNat
      · have : (Rd.mk (c :: l) false).flag.2.f = true := by simp [Rd.flag, Rd.take, h1]
        exact ⟨.inl this, .inl this⟩
      · have e1 : (Rd.mk (c :: l) false).flag = (c.toNat == 1, ⟨l, false⟩) := by simp [Rd.flag, Rd.take, h1]
        have e2 : (Rd.mk (c :: l ++ k) false).flag = (c.toNat == 1, ⟨l ++ k, false⟩) := by simp [Rd.flag, Rd.take, h1]
        rw [e1, e2]
        exact ⟨.inr ⟨rfl, rfl, k, hk, rfl⟩, .inr rfl⟩
theorem Pre.cut (l : List UInt8) (n : Nat) (h : n < l.length) : Pre ⟨l.take n, false⟩ ⟨l, false⟩ :=
  .inr ⟨rfl, rfl, l.drop n, by intro e; have := congrArg List.length e; simp at this; omega, (List.take_append_drop n l).symm⟩
end Go.Proofs.Ytlellgnklohclaa.L
