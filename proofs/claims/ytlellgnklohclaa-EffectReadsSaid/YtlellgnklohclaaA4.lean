/- Walks: the reader of package bytes: Int, Text, Flag, Done, NewReader. -/
import Derived.Test.YtlellgnklohclaaA3
namespace Go.Proofs.Ytlellgnklohclaa.L
open Go Go.Proofs
attribute [local irreducible] pv fv pt fz RowF RowO rowP old pure_
set_option maxRecDepth 100000
set_option linter.unusedSimpArgs false
set_option linter.unusedVariables false

theorem Rd.num_ge (s : Rd) (n : Nat) : 0 ≤ (s.num n).1 := by
  unfold Rd.num
  split
  · exact Int.le_refl _
  · exact ofLe_nonneg _
theorem Rd.num_lt (s : Rd) (n : Nat) : (s.num n).1 < 256 ^ n := by
  unfold Rd.num
  have hp : (0 : Int) < 256 ^ n := Int.pow_pos (by decide)
  split
  · exact hp
  · rename_i l s' h
    have hl : l.length = n := by
      unfold Rd.take at h
      split at h
      · cases h
      · split at h
        · cases h
        · simp at h; rw [← h.1, List.length_take]; omega
    have := ofLe_lt l
    rwa [hl] at this
theorem wrap_i64_i64 (n : Int) : IntKind.i64.wrap n = i64 n := IntKind.wrap_i64 n
theorem rd_Int (p : Nat) (q : Option Addr) (cap : Nat) (s : Rd) (hc : s.bs.length ≤ cap) : Fn Try.prog 29 [.pointer (some ⟨p, 0, none⟩)].toArray (RdL p q cap s)
    (fun r post => ∃ q' cap', r = .int .i64 s.int.1 ∧ post = RdL p q' cap' s.int.2 ∧ s.int.2.bs.length ≤ cap') := by
  refine Fn.enter (N := 6) Try.func29 rfl Try.ntmps29 (by kernel_rfl) rfl (fun ρ L => ?_)
  repeat (first | refine K.seq ?_ | refine K.skip ?_ | refine K.block ?_ | refine K.inBlock ?_ | refine K.label ?_)
  refine K.region ?_
  refine KO.q rfl (q_assign rfl) ?_
  refine KO.done ?_
  repeat (first | refine K.seq ?_ | refine K.skip ?_ | refine K.block ?_ | refine K.inBlock ?_ | refine K.label ?_)
  repeat (first | refine K.seq ?_ | refine K.skip ?_ | refine K.block ?_ | refine K.inBlock ?_ | refine K.label ?_)
  refine K.region ?_
  refine KO.q rfl (q_move rfl) ?_
  refine KO.loud rfl (OpL.call rfl (rd_number p q cap s 8 (by decide) (by decide) hc) (by repeat (first | exact Give.nil | (apply Give.perI; (repeat (first | exact List.Mem.head _ | apply List.Mem.tail))) | (apply Give.own; (repeat (first | exact Pick.here | apply Pick.there)))))) ?_
  rintro _ _ ⟨_, ⟨q', cap', rfl, rfl, hc'⟩, rfl⟩
  refine KO.q rfl (q_convw Try.underlying3 (by rw [Try.underlying87]; rfl) rfl) ?_
  refine KO.q rfl (q_assign rfl) ?_
  refine KO.done ?_
  repeat (first | refine K.seq ?_ | refine K.skip ?_ | refine K.block ?_ | refine K.inBlock ?_ | refine K.label ?_)
  refine K.ret (fn := Try.f29) Try.func29 (fun a w hk hs => res1 Try.results29 hk rfl) (fun w hs => ?_)
  rw [wrap_i64_i64]
  exact ⟨_, RdL p q' cap' s.int.2, rfl, ⟨q', cap', rfl, rfl, hc'⟩, hs.fit (by repeat (first | exact Give.nil | (apply Give.perI; (repeat (first | exact List.Mem.head _ | apply List.Mem.tail))) | (apply Give.own; (repeat (first | exact Pick.here | apply Pick.there))))) (by repeat (first | exact Drop.refl | apply Drop.skip))⟩
theorem rd_Text (p : Nat) (q : Option Addr) (cap : Nat) (s : Rd) (hc : s.bs.length ≤ cap) : Fn Try.prog 28 [.pointer (some ⟨p, 0, none⟩)].toArray (RdL p q cap s)
    (fun r post => ∃ q' cap', r = .string s.text.1 ∧ post = RdL p q' cap' s.text.2 ∧ s.text.2.bs.length ≤ cap') := by
  have g0 := s.num_ge 2
  have g1 := s.num_lt 2
  refine Fn.enter (N := 17) Try.func28 rfl Try.ntmps28 (by kernel_rfl) rfl (fun ρ L => ?_)
  repeat (first | refine K.seq ?_ | refine K.skip ?_ | refine K.block ?_ | refine K.inBlock ?_ | refine K.label ?_)
  refine K.region ?_
  refine KO.q rfl (q_assign rfl) ?_
  refine KO.done ?_
  repeat (first | refine K.seq ?_ | refine K.skip ?_ | refine K.block ?_ | refine K.inBlock ?_ | refine K.label ?_)
  repeat (first | refine K.seq ?_ | refine K.skip ?_ | refine K.block ?_ | refine K.inBlock ?_ | refine K.label ?_)
  refine K.region ?_
  refine KO.q rfl (q_move rfl) ?_
  refine KO.q rfl (q_move rfl) ?_
  refine KO.loud rfl (OpL.call rfl (rd_number p q cap s 2 (by decide) (by decide) hc) (by repeat (first | exact Give.nil | (apply Give.perI; (repeat (first | exact List.Mem.head _ | apply List.Mem.tail))) | (apply Give.own; (repeat (first | exact Pick.here | apply Pick.there)))))) ?_
  rintro _ _ ⟨_, ⟨q', cap', rfl, rfl, hc'⟩, rfl⟩
  have e2 : s.num (2 : Int).toNat = s.num 2 := rfl
  rw [e2] at hc' ⊢
  generalize hN : (s.num 2).1 = N at g0 g1 ⊢
  generalize hS : (s.num 2).2 = S at hc' ⊢
  have g2 : N < 65536 := g1
  clear g1
  refine KO.q rfl (q_conv Try.underlying3 (by rw [Try.underlying87]; rfl) rfl (by first | rfl | exact wrap_i64 (by omega) (by omega) | exact wrap_u64 (by omega) (by omega) | exact wrap_u8 (by omega) (by omega))) ?_
  by_cases hf : S.f = true
  · have e : s.text = (⟨#[]⟩, S) := by simp [Rd.text, hN, hS, Rd.take_failed hf]
    refine KO.loud rfl (OpL.call rfl (rd_take_failed p q' cap' S N hf) (by repeat (first | exact Give.nil | (apply Give.perI; (repeat (first | exact List.Mem.head _ | apply List.Mem.tail))) | (apply Give.own; (repeat (first | exact Pick.here | apply Pick.there)))))) ?_
    rintro _ _ ⟨_, ⟨rfl, rfl⟩, rfl⟩
    refine KO.q rfl (q_move rfl) ?_
    refine KO.q rfl (q_extract rfl rfl) ?_
    refine KO.q rfl (q_extract rfl rfl) ?_
    refine KO.q rfl (q_assign rfl) ?_
    refine KO.q rfl (q_assign rfl) ?_
    refine KO.done ?_
    repeat (first | refine K.seq ?_ | refine K.skip ?_ | refine K.block ?_ | refine K.inBlock ?_ | refine K.label ?_)
    repeat (first | refine K.seq ?_ | refine K.skip ?_ | refine K.block ?_ | refine K.inBlock ?_ | refine K.label ?_)
    refine K.region ?_
    refine KO.q rfl (q_move rfl) ?_
    refine KO.q rfl (q_not rfl) ?_
    refine KO.done ?_
    repeat (first | refine K.seq ?_ | refine K.skip ?_ | refine K.block ?_ | refine K.inBlock ?_ | refine K.label ?_)
    refine K.yes rfl ?_
    repeat (first | refine K.seq ?_ | refine K.skip ?_ | refine K.block ?_ | refine K.inBlock ?_ | refine K.label ?_)
    refine K.region ?_
    refine KO.q rfl (q_assign rfl) ?_
    refine KO.done ?_
    repeat (first | refine K.seq ?_ | refine K.skip ?_ | refine K.block ?_ | refine K.inBlock ?_ | refine K.label ?_)
    refine K.ret (fn := Try.f28) Try.func28 (fun a w hk hs => res1 Try.results28 hk rfl) (fun w hs => ?_)
    exact ⟨_, RdL p q' cap' S, rfl, ⟨q', cap', by rw [e], by rw [e], by rw [e]; exact hc'⟩, hs.fit (by repeat (first | exact Give.nil | (apply Give.perI; (repeat (first | exact List.Mem.head _ | apply List.Mem.tail))) | (apply Give.own; (repeat (first | exact Pick.here | apply Pick.there))))) (by repeat (first | exact Drop.refl | apply Drop.skip))⟩
  · replace hf : S.f = false := by simpa using hf
    by_cases hl : (S.bs.length : Int) < N
    · have e : s.text = (⟨#[]⟩, ⟨[], true⟩) := by simp [Rd.text, hN, hS, Rd.take_short hf (show S.bs.length < N.toNat by omega)]
      refine KO.loud rfl (OpL.call rfl (rd_take_short p q' cap' S N hf hl) (by repeat (first | exact Give.nil | (apply Give.perI; (repeat (first | exact List.Mem.head _ | apply List.Mem.tail))) | (apply Give.own; (repeat (first | exact Pick.here | apply Pick.there)))))) ?_
      rintro _ _ ⟨_, ⟨rfl, rfl⟩, rfl⟩
      refine KO.q rfl (q_move rfl) ?_
      refine KO.q rfl (q_extract rfl rfl) ?_
      refine KO.q rfl (q_extract rfl rfl) ?_
      refine KO.q rfl (q_assign rfl) ?_
      refine KO.q rfl (q_assign rfl) ?_
      refine KO.done ?_
      repeat (first | refine K.seq ?_ | refine K.skip ?_ | refine K.block ?_ | refine K.inBlock ?_ | refine K.label ?_)
      repeat (first | refine K.seq ?_ | refine K.skip ?_ | refine K.block ?_ | refine K.inBlock ?_ | refine K.label ?_)
      refine K.region ?_
      refine KO.q rfl (q_move rfl) ?_
      refine KO.q rfl (q_not rfl) ?_
      refine KO.done ?_
      repeat (first | refine K.seq ?_ | refine K.skip ?_ | refine K.block ?_ | refine K.inBlock ?_ | refine K.label ?_)
      refine K.yes rfl ?_
      repeat (first | refine K.seq ?_ | refine K.skip ?_ | refine K.block ?_ | refine K.inBlock ?_ | refine K.label ?_)
      refine K.region ?_
      refine KO.q rfl (q_assign rfl) ?_
      refine KO.done ?_
      repeat (first | refine K.seq ?_ | refine K.skip ?_ | refine K.block ?_ | refine K.inBlock ?_ | refine K.label ?_)
      refine K.ret (fn := Try.f28) Try.func28 (fun a w hk hs => res1 Try.results28 hk rfl) (fun w hs => ?_)
      exact ⟨_, RdL p none 0 ⟨[], true⟩, rfl, ⟨none, 0, by rw [e], by rw [e], by rw [e]; exact Nat.le_refl _⟩, hs.fit (by repeat (first | exact Give.nil | (apply Give.perI; (repeat (first | exact List.Mem.head _ | apply List.Mem.tail))) | (apply Give.own; (repeat (first | exact Pick.here | apply Pick.there))))) (by repeat (first | exact Drop.refl | apply Drop.skip))⟩
    · have e : s.text = (⟨(S.bs.take N.toNat).toArray⟩, ⟨S.bs.drop N.toNat, false⟩) := by simp [Rd.text, hN, hS, Rd.take_ok hf (show N.toNat ≤ S.bs.length by omega)]
      have hlen : N.toNat = (S.bs.take N.toNat).length := by rw [List.length_take]; omega
      refine KO.loud rfl (OpL.call rfl (rd_take_ok p q' cap' S N hf g0 (by omega) hc') (by repeat (first | exact Give.nil | (apply Give.perI; (repeat (first | exact List.Mem.head _ | apply List.Mem.tail))) | (apply Give.own; (repeat (first | exact Pick.here | apply Pick.there)))))) ?_
      rintro _ _ ⟨_, ⟨rfl, rfl⟩, rfl⟩
      refine KO.q rfl (q_move rfl) ?_
      refine KO.q rfl (q_extract rfl rfl) ?_
      refine KO.q rfl (q_extract rfl rfl) ?_
      refine KO.q rfl (q_assign rfl) ?_
      refine KO.q rfl (q_assign rfl) ?_
      refine KO.done ?_
      repeat (first | refine K.seq ?_ | refine K.skip ?_ | refine K.block ?_ | refine K.inBlock ?_ | refine K.label ?_)
      repeat (first | refine K.seq ?_ | refine K.skip ?_ | refine K.block ?_ | refine K.inBlock ?_ | refine K.label ?_)
      refine K.region ?_
      refine KO.q rfl (q_move rfl) ?_
      refine KO.q rfl (q_not rfl) ?_
      refine KO.done ?_
      repeat (first | refine K.seq ?_ | refine K.skip ?_ | refine K.block ?_ | refine K.inBlock ?_ | refine K.label ?_)
      refine K.no rfl ?_
      repeat (first | refine K.seq ?_ | refine K.skip ?_ | refine K.block ?_ | refine K.inBlock ?_ | refine K.label ?_)
      refine K.region ?_
      refine KO.q rfl (q_move rfl) ?_
      refine KO.q rfl (q_bstr Try.underlying25 Try.underlying5 Try.underlying9 rfl isF (List.Mem.head _) hlen) ?_
      refine KO.q rfl (q_assign rfl) ?_
      refine KO.done ?_
      repeat (first | refine K.seq ?_ | refine K.skip ?_ | refine K.block ?_ | refine K.inBlock ?_ | refine K.label ?_)
      refine K.ret (fn := Try.f28) Try.func28 (fun a w hk hs => res1 Try.results28 hk rfl) (fun w hs => ?_)
      exact ⟨_, RdL p (cutAddr q' cap' N.toNat 1) (cap' - N.toNat) ⟨S.bs.drop N.toNat, false⟩, rfl, ⟨_, _, by rw [e], by rw [e], by rw [e]; simp; omega⟩, hs.fit (by repeat (first | exact Give.nil | (apply Give.perI; (repeat (first | exact List.Mem.head _ | apply List.Mem.tail))) | (apply Give.own; (repeat (first | exact Pick.here | apply Pick.there))))) (by repeat (first | exact Drop.refl | apply Drop.skip))⟩
theorem rd_Flag (p : Nat) (q : Option Addr) (cap : Nat) (s : Rd) (hc : s.bs.length ≤ cap) : Fn Try.prog 34 [.pointer (some ⟨p, 0, none⟩)].toArray (RdL p q cap s)
    (fun r post => ∃ q' cap', r = .bool s.flag.1 ∧ post = RdL p q' cap' s.flag.2 ∧ s.flag.2.bs.length ≤ cap') := by
  by_cases hf : s.f = true
  · have e : s.flag = (false, s) := by simp [Rd.flag, Rd.take_failed hf]
    refine Fn.enter (N := 22) Try.func34 rfl Try.ntmps34 (by kernel_rfl) rfl (fun ρ L => ?_)
    repeat (first | refine K.seq ?_ | refine K.skip ?_ | refine K.block ?_ | refine K.inBlock ?_ | refine K.label ?_)
    refine K.region ?_
    refine KO.q rfl (q_assign rfl) ?_
    refine KO.done ?_
    repeat (first | refine K.seq ?_ | refine K.skip ?_ | refine K.block ?_ | refine K.inBlock ?_ | refine K.label ?_)
    repeat (first | refine K.seq ?_ | refine K.skip ?_ | refine K.block ?_ | refine K.inBlock ?_ | refine K.label ?_)
    refine K.region ?_
    refine KO.q rfl (q_move rfl) ?_
    refine KO.loud rfl (OpL.call rfl (rd_take_failed p q cap s 1 hf) (by repeat (first | exact Give.nil | (apply Give.perI; (repeat (first | exact List.Mem.head _ | apply List.Mem.tail))) | (apply Give.own; (repeat (first | exact Pick.here | apply Pick.there)))))) ?_
    rintro _ _ ⟨_, ⟨rfl, rfl⟩, rfl⟩
    refine KO.q rfl (q_move rfl) ?_
    refine KO.q rfl (q_extract rfl rfl) ?_
    refine KO.q rfl (q_extract rfl rfl) ?_
    refine KO.q rfl (q_assign rfl) ?_
    refine KO.q rfl (q_assign rfl) ?_
    refine KO.done ?_
    repeat (first | refine K.seq ?_ | refine K.skip ?_ | refine K.block ?_ | refine K.inBlock ?_ | refine K.label ?_)
    repeat (first | refine K.seq ?_ | refine K.skip ?_ | refine K.block ?_ | refine K.inBlock ?_ | refine K.label ?_)
    refine K.region ?_
    refine KO.q rfl (q_move rfl) ?_
    refine KO.q rfl (q_not rfl) ?_
    refine KO.done ?_
    repeat (first | refine K.seq ?_ | refine K.skip ?_ | refine K.block ?_ | refine K.inBlock ?_ | refine K.label ?_)
    refine K.yes rfl ?_
    repeat (first | refine K.seq ?_ | refine K.skip ?_ | refine K.block ?_ | refine K.inBlock ?_ | refine K.label ?_)
    refine K.region ?_
    refine KO.q rfl (q_assign rfl) ?_
    refine KO.done ?_
    repeat (first | refine K.seq ?_ | refine K.skip ?_ | refine K.block ?_ | refine K.inBlock ?_ | refine K.label ?_)
    refine K.ret (fn := Try.f34) Try.func34 (fun a w hk hs => res1 Try.results34 hk rfl) (fun w hs => ?_)
    exact ⟨_, RdL p q cap s, rfl, ⟨q, cap, by rw [e], by rw [e], by rw [e]; exact hc⟩, hs.fit (by repeat (first | exact Give.nil | (apply Give.perI; (repeat (first | exact List.Mem.head _ | apply List.Mem.tail))) | (apply Give.own; (repeat (first | exact Pick.here | apply Pick.there))))) (by repeat (first | exact Drop.refl | apply Drop.skip))⟩
  · replace hf : s.f = false := by simpa using hf
    by_cases hl : (s.bs.length : Int) < 1
    · have e : s.flag = (false, ⟨[], true⟩) := by simp [Rd.flag, Rd.take_short hf (show s.bs.length < 1 by omega)]
      refine Fn.enter (N := 22) Try.func34 rfl Try.ntmps34 (by kernel_rfl) rfl (fun ρ L => ?_)
      repeat (first | refine K.seq ?_ | refine K.skip ?_ | refine K.block ?_ | refine K.inBlock ?_ | refine K.label ?_)
      refine K.region ?_
      refine KO.q rfl (q_assign rfl) ?_
      refine KO.done ?_
      repeat (first | refine K.seq ?_ | refine K.skip ?_ | refine K.block ?_ | refine K.inBlock ?_ | refine K.label ?_)
      repeat (first | refine K.seq ?_ | refine K.skip ?_ | refine K.block ?_ | refine K.inBlock ?_ | refine K.label ?_)
      refine K.region ?_
      refine KO.q rfl (q_move rfl) ?_
      refine KO.loud rfl (OpL.call rfl (rd_take_short p q cap s 1 hf hl) (by repeat (first | exact Give.nil | (apply Give.perI; (repeat (first | exact List.Mem.head _ | apply List.Mem.tail))) | (apply Give.own; (repeat (first | exact Pick.here | apply Pick.there)))))) ?_
      rintro _ _ ⟨_, ⟨rfl, rfl⟩, rfl⟩
      refine KO.q rfl (q_move rfl) ?_
      refine KO.q rfl (q_extract rfl rfl) ?_
      refine KO.q rfl (q_extract rfl rfl) ?_
      refine KO.q rfl (q_assign rfl) ?_
      refine KO.q rfl (q_assign rfl) ?_
      refine KO.done ?_
      repeat (first | refine K.seq ?_ | refine K.skip ?_ | refine K.block ?_ | refine K.inBlock ?_ | refine K.label ?_)
      repeat (first | refine K.seq ?_ | refine K.skip ?_ | refine K.block ?_ | refine K.inBlock ?_ | refine K.label ?_)
      refine K.region ?_
      refine KO.q rfl (q_move rfl) ?_
      refine KO.q rfl (q_not rfl) ?_
      refine KO.done ?_
      repeat (first | refine K.seq ?_ | refine K.skip ?_ | refine K.block ?_ | refine K.inBlock ?_ | refine K.label ?_)
      refine K.yes rfl ?_
      repeat (first | refine K.seq ?_ | refine K.skip ?_ | refine K.block ?_ | refine K.inBlock ?_ | refine K.label ?_)
      refine K.region ?_
      refine KO.q rfl (q_assign rfl) ?_
      refine KO.done ?_
      repeat (first | refine K.seq ?_ | refine K.skip ?_ | refine K.block ?_ | refine K.inBlock ?_ | refine K.label ?_)
      refine K.ret (fn := Try.f34) Try.func34 (fun a w hk hs => res1 Try.results34 hk rfl) (fun w hs => ?_)
      exact ⟨_, RdL p none 0 ⟨[], true⟩, rfl, ⟨none, 0, by rw [e], by rw [e], by rw [e]; exact Nat.le_refl _⟩, hs.fit (by repeat (first | exact Give.nil | (apply Give.perI; (repeat (first | exact List.Mem.head _ | apply List.Mem.tail))) | (apply Give.own; (repeat (first | exact Pick.here | apply Pick.there))))) (by repeat (first | exact Drop.refl | apply Drop.skip))⟩
    · obtain ⟨bs, f⟩ := s
      obtain rfl : f = false := hf
      replace hl : ¬ (bs.length : Int) < 1 := hl
      replace hc : bs.length ≤ cap := hc
      obtain ⟨c, l, rfl⟩ : ∃ c l, bs = c :: l := by
        cases bs with
        | nil => simp at hl
        | cons c l => exact ⟨c, l, rfl⟩
      have hb := c.toNat_lt
      refine Fn.enter (N := 22) Try.func34 rfl Try.ntmps34 (by kernel_rfl) rfl (fun ρ L => ?_)
      repeat (first | refine K.seq ?_ | refine K.skip ?_ | refine K.block ?_ | refine K.inBlock ?_ | refine K.label ?_)
      refine K.region ?_
      refine KO.q rfl (q_assign rfl) ?_
      refine KO.done ?_
      repeat (first | refine K.seq ?_ | refine K.skip ?_ | refine K.block ?_ | refine K.inBlock ?_ | refine K.label ?_)
      repeat (first | refine K.seq ?_ | refine K.skip ?_ | refine K.block ?_ | refine K.inBlock ?_ | refine K.label ?_)
      refine K.region ?_
      refine KO.q rfl (q_move rfl) ?_
      refine KO.loud rfl (OpL.call rfl (rd_take_ok p q cap ⟨c :: l, false⟩ 1 rfl (by decide) (by simp; omega) hc) (by repeat (first | exact Give.nil | (apply Give.perI; (repeat (first | exact List.Mem.head _ | apply List.Mem.tail))) | (apply Give.own; (repeat (first | exact Pick.here | apply Pick.there)))))) ?_
      rintro _ _ ⟨_, ⟨rfl, rfl⟩, rfl⟩
      refine KO.q rfl (q_move rfl) ?_
      refine KO.q rfl (q_extract rfl rfl) ?_
      refine KO.q rfl (q_extract rfl rfl) ?_
      refine KO.q rfl (q_assign rfl) ?_
      refine KO.q rfl (q_assign rfl) ?_
      refine KO.done ?_
      repeat (first | refine K.seq ?_ | refine K.skip ?_ | refine K.block ?_ | refine K.inBlock ?_ | refine K.label ?_)
      repeat (first | refine K.seq ?_ | refine K.skip ?_ | refine K.block ?_ | refine K.inBlock ?_ | refine K.label ?_)
      refine K.region ?_
      refine KO.q rfl (q_move rfl) ?_
      refine KO.q rfl (q_not rfl) ?_
      refine KO.done ?_
      repeat (first | refine K.seq ?_ | refine K.skip ?_ | refine K.block ?_ | refine K.inBlock ?_ | refine K.label ?_)
      refine K.no rfl ?_
      have hx : ((Rd.mk (c :: l) false).bs.take (1 : Int).toNat)[(0 : Int).toNat]? = some c := rfl
      refine K.fact (rowF_addr (List.Mem.head _) (by intro e; rw [e] at hx; simp at hx)) (fun hq => ?_)
      obtain ⟨bq, oq, rfl⟩ := hq
      repeat (first | refine K.seq ?_ | refine K.skip ?_ | refine K.block ?_ | refine K.inBlock ?_ | refine K.label ?_)
      refine K.region ?_
      refine KO.q rfl (q_move rfl) ?_
      refine KO.q rfl (q_index se_25 rfl rfl (by first | omega | (simp; omega)) (by first | omega | (simp; omega))) ?_
      refine KO.q rfl (q_load1 ck_5 rfl (by first | (apply cell_pv; (repeat (first | exact List.Mem.head _ | apply List.Mem.tail)); rfl) | (apply cell_fv; (repeat (first | exact List.Mem.head _ | apply List.Mem.tail)); rfl) | (apply rowF_cellU; (repeat (first | exact List.Mem.head _ | apply List.Mem.tail)); assumption) | (apply itm_cell; (repeat (first | exact List.Mem.head _ | apply List.Mem.tail)); assumption; rfl))) ?_
      refine KO.q rfl (q_gt rfl rfl) ?_
      refine KO.done ?_
      repeat (first | refine K.seq ?_ | refine K.skip ?_ | refine K.block ?_ | refine K.inBlock ?_ | refine K.label ?_)
      refine K.dite rfl (fun h => ?_) (fun h => ?_)
      · have e : (Rd.mk (c :: l) false).flag = (false, ⟨[], true⟩) := by
          have : 1 < c.toNat := by omega
          simp [Rd.flag, Rd.take, this]
        repeat (first | refine K.seq ?_ | refine K.skip ?_ | refine K.block ?_ | refine K.inBlock ?_ | refine K.label ?_)
        refine K.region ?_
        refine KO.q rfl (q_move rfl) ?_
        refine KO.loud rfl (OpL.call rfl (rd_fail p _ _) (by repeat (first | exact Give.nil | (apply Give.perI; (repeat (first | exact List.Mem.head _ | apply List.Mem.tail))) | (apply Give.own; (repeat (first | exact Pick.here | apply Pick.there)))))) ?_
        rintro _ _ ⟨_, ⟨rfl, rfl⟩, rfl⟩
        refine KO.done ?_
        repeat (first | refine K.seq ?_ | refine K.skip ?_ | refine K.block ?_ | refine K.inBlock ?_ | refine K.label ?_)
        repeat (first | refine K.seq ?_ | refine K.skip ?_ | refine K.block ?_ | refine K.inBlock ?_ | refine K.label ?_)
        refine K.region ?_
        refine KO.q rfl (q_assign rfl) ?_
        refine KO.done ?_
        repeat (first | refine K.seq ?_ | refine K.skip ?_ | refine K.block ?_ | refine K.inBlock ?_ | refine K.label ?_)
        refine K.ret (fn := Try.f34) Try.func34 (fun a w hk hs => res1 Try.results34 hk rfl) (fun w hs => ?_)
        exact ⟨_, RdL p none 0 ⟨[], true⟩, rfl, ⟨none, 0, by rw [e], by rw [e], by rw [e]; exact Nat.le_refl _⟩, (rowF_nil (k := Kd.u8) none hs).fit (by repeat (first | exact Give.nil | (apply Give.perI; (repeat (first | exact List.Mem.head _ | apply List.Mem.tail))) | (apply Give.own; (repeat (first | exact Pick.here | apply Pick.there))))) (by repeat (first | exact Drop.refl | apply Drop.skip))⟩
      · have e : (Rd.mk (c :: l) false).flag = (c.toNat == 1, ⟨l, false⟩) := by
          have : ¬ 1 < c.toNat := by omega
          simp [Rd.flag, Rd.take, this]
        repeat (first | refine K.seq ?_ | refine K.skip ?_ | refine K.block ?_ | refine K.inBlock ?_ | refine K.label ?_)
        refine K.region ?_
        refine KO.q rfl (q_move rfl) ?_
        refine KO.q rfl (q_index se_25 rfl rfl (by first | omega | (simp; omega)) (by first | omega | (simp; omega))) ?_
        refine KO.q rfl (q_load1 ck_5 rfl (by first | (apply cell_pv; (repeat (first | exact List.Mem.head _ | apply List.Mem.tail)); rfl) | (apply cell_fv; (repeat (first | exact List.Mem.head _ | apply List.Mem.tail)); rfl) | (apply rowF_cellU; (repeat (first | exact List.Mem.head _ | apply List.Mem.tail)); assumption) | (apply itm_cell; (repeat (first | exact List.Mem.head _ | apply List.Mem.tail)); assumption; rfl))) ?_
        refine KO.q rfl (q_eq rfl rfl) ?_
        refine KO.q rfl (q_assign rfl) ?_
        refine KO.done ?_
        repeat (first | refine K.seq ?_ | refine K.skip ?_ | refine K.block ?_ | refine K.inBlock ?_ | refine K.label ?_)
        refine K.ret (fn := Try.f34) Try.func34 (fun a w hk hs => res1 Try.results34 hk rfl) (fun w hs => ?_)
        have e3 : decide ((c.toNat : Int) = 1) = (c.toNat == 1) := by
          by_cases h1 : c.toNat = 1
          · simp [h1]
          · have h2 : ¬ (c.toNat : Int) = 1 := by omega
            simp [h1, h2]
        rw [e3]
        exact ⟨_, RdL p (cutAddr (some ⟨bq, oq, none⟩) cap 1 1) (cap - 1) ⟨l, false⟩, rfl, ⟨_, _, by rw [e], by rw [e], by rw [e]; simp at hc ⊢; omega⟩, hs.fit (by repeat (first | exact Give.nil | (apply Give.perI; (repeat (first | exact List.Mem.head _ | apply List.Mem.tail))) | (apply Give.own; (repeat (first | exact Pick.here | apply Pick.there))))) (by repeat (first | exact Drop.refl | apply Drop.skip))⟩
theorem rd_Failed (p : Nat) (q : Option Addr) (cap : Nat) (s : Rd) : Fn Try.prog 68 [.pointer (some ⟨p, 0, none⟩)].toArray (RdL p q cap s) (fun r post => r = .bool s.f ∧ post = RdL p q cap s) := by
  refine Fn.enter (N := 11) Try.func68 rfl Try.ntmps68 (by kernel_rfl) rfl (fun ρ L => ?_)
  repeat (first | refine K.seq ?_ | refine K.skip ?_ | refine K.block ?_ | refine K.inBlock ?_ | refine K.label ?_)
  refine K.region ?_
  refine KO.q rfl (q_assign rfl) ?_
  refine KO.done ?_
  repeat (first | refine K.seq ?_ | refine K.skip ?_ | refine K.block ?_ | refine K.inBlock ?_ | refine K.label ?_)
  repeat (first | refine K.seq ?_ | refine K.skip ?_ | refine K.block ?_ | refine K.inBlock ?_ | refine K.label ?_)
  refine K.region ?_
  refine KO.q rfl (q_move rfl) ?_
  refine KO.q rfl (q_pnn Try.underlying38 rfl rfl) ?_
  refine KO.q rfl (q_move rfl) ?_
  refine KO.q rfl (q_move rfl) ?_
  refine KO.q rfl (q_nilCheck rfl) ?_
  refine KO.q rfl (q_field fo_90_1 rfl) ?_
  refine KO.q rfl (q_load1 ck_4 rfl (by first | (apply cell_pv; (repeat (first | exact List.Mem.head _ | apply List.Mem.tail)); rfl) | (apply cell_fv; (repeat (first | exact List.Mem.head _ | apply List.Mem.tail)); rfl) | (apply rowF_cellU; (repeat (first | exact List.Mem.head _ | apply List.Mem.tail)); assumption) | (apply itm_cell; (repeat (first | exact List.Mem.head _ | apply List.Mem.tail)); assumption; rfl))) ?_
  refine KO.q rfl (q_pickT rfl rfl) ?_
  refine KO.q rfl (q_assign rfl) ?_
  refine KO.done ?_
  repeat (first | refine K.seq ?_ | refine K.skip ?_ | refine K.block ?_ | refine K.inBlock ?_ | refine K.label ?_)
  refine K.ret (fn := Try.f68) Try.func68 (fun a w hk hs => res1 Try.results68 hk rfl) (fun w hs => ?_)
  exact ⟨_, RdL p q cap s, rfl, ⟨rfl, rfl⟩, hs.fit (by repeat (first | exact Give.nil | (apply Give.perI; (repeat (first | exact List.Mem.head _ | apply List.Mem.tail))) | (apply Give.own; (repeat (first | exact Pick.here | apply Pick.there))))) (by repeat (first | exact Drop.refl | apply Drop.skip))⟩
theorem rd_Left (p : Nat) (q : Option Addr) (cap : Nat) (s : Rd) : Fn Try.prog 69 [.pointer (some ⟨p, 0, none⟩)].toArray (RdL p q cap s) (fun r post => r = .int .i64 s.bs.length ∧ post = RdL p q cap s) := by
  refine Fn.enter (N := 10) Try.func69 rfl Try.ntmps69 (by kernel_rfl) rfl (fun ρ L => ?_)
  repeat (first | refine K.seq ?_ | refine K.skip ?_ | refine K.block ?_ | refine K.inBlock ?_ | refine K.label ?_)
  refine K.region ?_
  refine KO.q rfl (q_assign rfl) ?_
  refine KO.done ?_
  repeat (first | refine K.seq ?_ | refine K.skip ?_ | refine K.block ?_ | refine K.inBlock ?_ | refine K.label ?_)
  repeat (first | refine K.seq ?_ | refine K.skip ?_ | refine K.block ?_ | refine K.inBlock ?_ | refine K.label ?_)
  refine K.region ?_
  refine KO.q rfl (q_move rfl) ?_
  refine KO.q rfl (q_pnil Try.underlying38 rfl rfl) ?_
  refine KO.done ?_
  repeat (first | refine K.seq ?_ | refine K.skip ?_ | refine K.block ?_ | refine K.inBlock ?_ | refine K.label ?_)
  refine K.no rfl ?_
  repeat (first | refine K.seq ?_ | refine K.skip ?_ | refine K.block ?_ | refine K.inBlock ?_ | refine K.label ?_)
  refine K.region ?_
  refine KO.q rfl (q_move rfl) ?_
  refine KO.q rfl (q_nilCheck rfl) ?_
  refine KO.q rfl (q_field fo_90_0 rfl) ?_
  refine KO.q rfl (q_load1 ck_25 rfl (by first | (apply cell_pv; (repeat (first | exact List.Mem.head _ | apply List.Mem.tail)); rfl) | (apply cell_fv; (repeat (first | exact List.Mem.head _ | apply List.Mem.tail)); rfl) | (apply rowF_cellU; (repeat (first | exact List.Mem.head _ | apply List.Mem.tail)); assumption) | (apply itm_cell; (repeat (first | exact List.Mem.head _ | apply List.Mem.tail)); assumption; rfl))) ?_
  refine KO.q rfl (q_len Try.underlying25 rfl) ?_
  refine KO.q rfl (q_assign rfl) ?_
  refine KO.done ?_
  repeat (first | refine K.seq ?_ | refine K.skip ?_ | refine K.block ?_ | refine K.inBlock ?_ | refine K.label ?_)
  refine K.ret (fn := Try.f69) Try.func69 (fun a w hk hs => res1 Try.results69 hk rfl) (fun w hs => ?_)
  exact ⟨_, RdL p q cap s, rfl, ⟨rfl, rfl⟩, hs.fit (by repeat (first | exact Give.nil | (apply Give.perI; (repeat (first | exact List.Mem.head _ | apply List.Mem.tail))) | (apply Give.own; (repeat (first | exact Pick.here | apply Pick.there))))) (by repeat (first | exact Drop.refl | apply Drop.skip))⟩
theorem rd_Done (p : Nat) (q : Option Addr) (cap : Nat) (s : Rd) : Fn Try.prog 30 [.pointer (some ⟨p, 0, none⟩)].toArray (RdL p q cap s) (fun r post => r = .bool s.done ∧ post = RdL p q cap s) := by
  refine Fn.enter (N := 11) Try.func30 rfl Try.ntmps30 (by kernel_rfl) rfl (fun ρ L => ?_)
  repeat (first | refine K.seq ?_ | refine K.skip ?_ | refine K.block ?_ | refine K.inBlock ?_ | refine K.label ?_)
  refine K.region ?_
  refine KO.q rfl (q_assign rfl) ?_
  refine KO.done ?_
  repeat (first | refine K.seq ?_ | refine K.skip ?_ | refine K.block ?_ | refine K.inBlock ?_ | refine K.label ?_)
  repeat (first | refine K.seq ?_ | refine K.skip ?_ | refine K.block ?_ | refine K.inBlock ?_ | refine K.label ?_)
  refine K.region ?_
  refine KO.q rfl (q_move rfl) ?_
  refine KO.loud rfl (OpL.call rfl (rd_Failed p q cap s) (by repeat (first | exact Give.nil | (apply Give.perI; (repeat (first | exact List.Mem.head _ | apply List.Mem.tail))) | (apply Give.own; (repeat (first | exact Pick.here | apply Pick.there)))))) ?_
  rintro _ _ ⟨_, ⟨rfl, rfl⟩, rfl⟩
  refine KO.q rfl (q_not rfl) ?_
  refine KO.q rfl (q_move rfl) ?_
  refine KO.split 6 rfl (fun g6 => ?_) (fun g6 => ?_)
  · refine KO.q rfl (q_move rfl) ?_
    refine KO.loud rfl (OpL.call rfl (rd_Left p q cap s) (by repeat (first | exact Give.nil | (apply Give.perI; (repeat (first | exact List.Mem.head _ | apply List.Mem.tail))) | (apply Give.own; (repeat (first | exact Pick.here | apply Pick.there)))))) ?_
    rintro _ _ ⟨_, ⟨rfl, rfl⟩, rfl⟩
    refine KO.q rfl (q_eq rfl rfl) ?_
    refine KO.q rfl (q_pickT rfl rfl) ?_
    refine KO.q rfl (q_assign rfl) ?_
    refine KO.done ?_
    repeat (first | refine K.seq ?_ | refine K.skip ?_ | refine K.block ?_ | refine K.inBlock ?_ | refine K.label ?_)
    refine K.ret (fn := Try.f30) Try.func30 (fun a w hk hs => res1 Try.results30 hk rfl) (fun w hs => ?_)
    refine ⟨_, RdL p q cap s, rfl, ⟨?_, rfl⟩, hs.fit (by repeat (first | exact Give.nil | (apply Give.perI; (repeat (first | exact List.Mem.head _ | apply List.Mem.tail))) | (apply Give.own; (repeat (first | exact Pick.here | apply Pick.there))))) (by repeat (first | exact Drop.refl | apply Drop.skip))⟩
    simp [Rd.done, *] <;> (cases s.bs <;> simp)
  · refine KO.skip rfl ?_
    refine KO.skip rfl ?_
    refine KO.skip rfl ?_
    refine KO.q rfl (q_pickF rfl rfl) ?_
    refine KO.q rfl (q_assign rfl) ?_
    refine KO.done ?_
    repeat (first | refine K.seq ?_ | refine K.skip ?_ | refine K.block ?_ | refine K.inBlock ?_ | refine K.label ?_)
    refine K.ret (fn := Try.f30) Try.func30 (fun a w hk hs => res1 Try.results30 hk rfl) (fun w hs => ?_)
    refine ⟨_, RdL p q cap s, rfl, ⟨?_, rfl⟩, hs.fit (by repeat (first | exact Give.nil | (apply Give.perI; (repeat (first | exact List.Mem.head _ | apply List.Mem.tail))) | (apply Give.own; (repeat (first | exact Pick.here | apply Pick.there))))) (by repeat (first | exact Drop.refl | apply Drop.skip))⟩
    simp [Rd.done, *] <;> (cases s.bs <;> simp)
end Go.Proofs.Ytlellgnklohclaa.L
