/- Walks: slices.Clone of bytes, NewReader, the writer of package bytes. -/
import Derived.Test.YtlellgnklohclaaWA
/-! Walks: slices.Clone of bytes, NewReader, the writer of package bytes. -/
namespace Go.Proofs.Ytlellgnklohclaa.L
open Go Go.Proofs
attribute [local irreducible] pv fv pt fz RowF RowO rowP old pure_
set_option maxRecDepth 100000
set_option linter.unusedSimpArgs false
set_option linter.unusedVariables false

theorem clone_u8 (A : HP) (q : Option Addr) (cap : Nat) (xs : List UInt8) (hA : IsRow A Kd.u8 q xs) (hb : xs.length ≤ 1099511627776) : Fn Try.prog 65 [.slice q xs.length cap].toArray [A]
    (fun r post => ∃ q' cap', r = .slice q' xs.length cap' ∧ post = [RowO Kd.u8 5 q' cap' xs, A] ∧ xs.length ≤ cap') := by
  refine Fn.enter (N := 8) Try.func65 rfl Try.ntmps65 (by kernel_rfl) rfl (fun ρ L => ?_)
  repeat (first | refine K.seq ?_ | refine K.skip ?_ | refine K.block ?_ | refine K.inBlock ?_ | refine K.label ?_)
  refine K.region ?_
  refine KO.q rfl (q_assign rfl) ?_
  refine KO.done ?_
  repeat (first | refine K.seq ?_ | refine K.skip ?_ | refine K.block ?_ | refine K.inBlock ?_ | refine K.label ?_)
  repeat (first | refine K.seq ?_ | refine K.skip ?_ | refine K.block ?_ | refine K.inBlock ?_ | refine K.label ?_)
  refine K.region ?_
  refine KO.q rfl (q_move rfl) ?_
  refine KO.q rfl (q_slnil Try.underlying25 rfl rfl) ?_
  refine KO.done ?_
  repeat (first | refine K.seq ?_ | refine K.skip ?_ | refine K.block ?_ | refine K.inBlock ?_ | refine K.label ?_)
  refine K.ite rfl (fun h => ?_) (fun h => ?_)
  · -- nil
    cases q with
    | some a => cases h
    | none =>
      refine K.fact (row_none hA (List.Mem.head _)) (fun e => ?_)
      subst e
      repeat (first | refine K.seq ?_ | refine K.skip ?_ | refine K.block ?_ | refine K.inBlock ?_ | refine K.label ?_)
      refine K.region ?_
      refine KO.q rfl (q_assign rfl) ?_
      refine KO.done ?_
      repeat (first | refine K.seq ?_ | refine K.skip ?_ | refine K.block ?_ | refine K.inBlock ?_ | refine K.label ?_)
      refine K.ret (fn := Try.f65) Try.func65 (fun a w hk hs => res1 Try.results65 hk rfl) (fun w hs => ?_)
      exact ⟨_, [RowO Kd.u8 5 none 0 [], A], rfl, ⟨none, 0, rfl, rfl, Nat.le_refl _⟩, (rowO_nil 5 hs).fitD⟩
  · repeat (first | refine K.seq ?_ | refine K.skip ?_ | refine K.block ?_ | refine K.inBlock ?_ | refine K.label ?_)
    refine K.region ?_
    refine KO.loud rfl (l_slice0 Kd.u8 se_25) ?_
    rintro _ _ ⟨q0, rfl, rfl⟩
    refine KO.q rfl (q_move rfl) ?_
    refine KO.loud rfl (l_append Kd.u8 se_25 Try.underlying25 ⟨_, ze_5, rfl⟩ (by decide) rfl rfl Pick.here hA (List.Mem.head _) rfl rfl (by simp; omega)) ?_
    rintro _ _ ⟨q', cap', rfl, rfl⟩
    refine KO.q rfl (q_assign rfl) ?_
    refine KO.done ?_
    repeat (first | refine K.seq ?_ | refine K.skip ?_ | refine K.block ?_ | refine K.inBlock ?_ | refine K.label ?_)
    refine K.ret (fn := Try.f65) Try.func65 (fun a w hk hs => res1 Try.results65 hk rfl) (fun w hs => ?_)
    exact ⟨_, [RowO Kd.u8 5 q' cap' xs, A], rfl, ⟨q', cap', rfl, rfl, rowO_cap (List.Mem.head _) w hs⟩, hs.fitD⟩
theorem rd_New (q : Option Addr) (cap : Nat) (xs : List UInt8) (hb : xs.length ≤ 1099511627776) : Fn Try.prog 26 [.slice q xs.length cap].toArray [RowF Kd.u8 q xs]
    (fun r post => ∃ p q' cap', r = .pointer (some ⟨p, 0, none⟩) ∧ post = RdL p q' cap' ⟨xs, false⟩ ∧ xs.length ≤ cap') := by
  refine Fn.enter (N := 7) Try.func26 rfl Try.ntmps26 (by kernel_rfl) rfl (fun ρ L => ?_)
  repeat (first | refine K.seq ?_ | refine K.skip ?_ | refine K.block ?_ | refine K.inBlock ?_ | refine K.label ?_)
  refine K.region ?_
  refine KO.q rfl (q_assign rfl) ?_
  refine KO.done ?_
  repeat (first | refine K.seq ?_ | refine K.skip ?_ | refine K.block ?_ | refine K.inBlock ?_ | refine K.label ?_)
  repeat (first | refine K.seq ?_ | refine K.skip ?_ | refine K.block ?_ | refine K.inBlock ?_ | refine K.label ?_)
  refine K.region ?_
  refine KO.q rfl (q_move rfl) ?_
  refine KO.loud rfl (OpL.callE rfl (clone_u8 _ q cap xs isF hb)) ?_
  rintro _ _ ⟨_, ⟨q', cap', rfl, rfl, hc'⟩, rfl⟩
  refine KO.q rfl (q_build st_90 rfl (by repeat (first | exact Fill.nil | (apply Fill.cons; rfl; rfl; rfl) | exact SetN.nil | apply SetN.cons | exact SetAt.here | apply SetAt.there))) ?_
  refine KO.loud rfl (l_box rfl rfl) ?_
  rintro _ _ ⟨b6, rfl, rfl⟩
  refine KO.q rfl (q_assign rfl) ?_
  refine KO.done ?_
  repeat (first | refine K.seq ?_ | refine K.skip ?_ | refine K.block ?_ | refine K.inBlock ?_ | refine K.label ?_)
  refine K.st (fun w h => rowO_freeze (h.pick (.there .here))) ?_
  refine K.ret (fn := Try.f26) Try.func26 (fun a w hk hs => res1 Try.results26 hk rfl) (fun w hs => ?_)
  exact ⟨_, RdL b6 q' cap' ⟨xs, false⟩, rfl, ⟨_, q', cap', rfl, rfl, hc'⟩, hs.fitD⟩

/-- A writer at p. -/
abbrev WrL (p : Nat) (q : Option Addr) (cap : Nat) (xs : List UInt8) : List HP := [pv p 35 [.slice q xs.length cap], RowO Kd.u8 5 q cap xs]
theorem wr_number (p : Nat) (q : Option Addr) (cap : Nat) (xs : List UInt8) (n : Int) (m : Int) (h0 : 0 ≤ n) (hm : 0 ≤ m) (h8 : m ≤ 8) (hb : xs.length ≤ 1099511627776) : Fn Try.prog 64 [.pointer (some ⟨p, 0, none⟩), .int .u64 n, .int .i64 m].toArray (WrL p q cap xs)
    (fun r post => ∃ q' cap', r = .tuple #[] ∧ post = WrL p q' cap' (xs ++ leb n m.toNat)) := by
  refine Fn.enter (N := 26) Try.func64 rfl Try.ntmps64 (by kernel_rfl) rfl (fun ρ L => ?_)
  repeat (first | refine K.seq ?_ | refine K.skip ?_ | refine K.block ?_ | refine K.inBlock ?_ | refine K.label ?_)
  refine K.region ?_
  refine KO.q rfl (q_move rfl) ?_
  refine KO.q rfl (q_move rfl) ?_
  refine KO.done ?_
  repeat (first | refine K.seq ?_ | refine K.skip ?_ | refine K.block ?_ | refine K.inBlock ?_ | refine K.label ?_)
  refine K.rounds (ι := { i : Nat × Option Addr × Nat // i.1 ≤ m.toNat }) (fun i => ([(8, .int .i64 (i.1.1 : Int)), (7, .int .i64 m), (0, .pointer (some ⟨p, 0, none⟩)), (1, .int .u64 n)], WrL p i.1.2.1 i.1.2.2 (xs ++ leb n i.1.1) ++ L)) (fun i => m.toNat - i.1.1) ⟨(0, q, cap), Nat.zero_le _⟩ (by repeat (first | exact Env.sub_nil _ | refine Env.sub_cons rfl ?_)) (fun w h => by rw [show leb n 0 = [] from rfl, List.append_nil]; exact h) (fun i ih => ?_)
  obtain ⟨⟨i, q', cap'⟩, hi⟩ := i
  replace hi : i ≤ m.toNat := hi
  have hlen := leb_length n i
  repeat (first | refine K.seq ?_ | refine K.skip ?_ | refine K.block ?_ | refine K.inBlock ?_ | refine K.label ?_)
  refine K.region ?_
  refine KO.q rfl (q_lt rfl rfl) ?_
  refine KO.done ?_
  repeat (first | refine K.seq ?_ | refine K.skip ?_ | refine K.block ?_ | refine K.inBlock ?_ | refine K.label ?_)
  refine K.dite rfl (fun h => ?_) (fun h => ?_)
  · replace h : (i : Int) < m := h
    repeat (first | refine K.seq ?_ | refine K.skip ?_ | refine K.block ?_ | refine K.inBlock ?_ | refine K.label ?_)
    refine K.region ?_
    refine KO.q rfl (q_move rfl) ?_
    refine KO.q rfl (q_assign rfl) ?_
    refine KO.done ?_
    repeat (first | refine K.seq ?_ | refine K.skip ?_ | refine K.block ?_ | refine K.inBlock ?_ | refine K.label ?_)
    have hbw := byte_wrap n i (by omega) h0
    repeat (first | refine K.seq ?_ | refine K.skip ?_ | refine K.block ?_ | refine K.inBlock ?_ | refine K.label ?_)
    refine K.draw [pv p 35 [.slice q' (xs ++ leb n i).length cap']] mixed ?_
    refine D.q 0 rfl (by kernel_rfl) (by kernel_rfl) (q_move rfl) (fun _ h => h.subD) ?_
    refine D.q 1 rfl (by kernel_rfl) (by kernel_rfl) (q_move rfl) (fun _ h => h.subD) ?_
    refine D.q 2 rfl (by kernel_rfl) (by kernel_rfl) (q_nilCheck rfl) (fun _ h => h.subD) ?_
    refine D.q 3 rfl (by kernel_rfl) (by kernel_rfl) (q_field fo_35_0 rfl) (fun _ h => h.subD) ?_
    refine D.q 4 rfl (by kernel_rfl) (by kernel_rfl) (q_load1D ck_25 rfl) (fun _ h => h.subD) ?_
    refine D.q 5 rfl (by kernel_rfl) (by kernel_rfl) (q_move rfl) (fun _ h => h.subD) ?_
    refine D.q 6 rfl (by kernel_rfl) (by kernel_rfl) (q_move rfl) (fun _ h => h.subD) ?_
    refine D.q 7 rfl (by kernel_rfl) (by kernel_rfl) (q_mul rfl rfl (by first | omega | (simp; omega)) (by first | omega | (simp; omega))) (fun _ h => h.subD) ?_
    refine D.q 8 rfl (by kernel_rfl) (by kernel_rfl) (q_shr rfl rfl (by first | omega | (simp; omega))) (fun _ h => h.subD) ?_
    refine D.q 9 rfl (by kernel_rfl) (by kernel_rfl) (q_convw Try.underlying5 (by rw [Try.underlying87]; rfl) rfl) (fun _ h => h.subD) ?_
    refine D.all (rs := [10]) (by kernel_rfl) rfl (DAll.cons rfl (by kernel_rfl) (l_slice sz_25_1 rfl (by repeat (first | exact Fill.nil | (apply Fill.cons; rfl; rfl; rfl) | exact SetN.nil | apply SetN.cons | exact SetAt.here | apply SetAt.there))) (.inr (by rintro _ _ ⟨b21, rfl, rfl⟩ w h; exact h.subD)) rfl ?_ DAll.nil)
    rintro _ _ ⟨b21, rfl, rfl⟩
    refine D.st (fun w h => pv_rowF1 (k := Kd.u8) (byteAt n i) (fun g => congrArg (fun z => [Value.int .u8 z]) hbw) h) ?_
    refine D.all (rs := [11]) (by kernel_rfl) rfl (DAll.cons rfl (by kernel_rfl) (l_append Kd.u8 se_25 Try.underlying25 ⟨_, ze_5, rfl⟩ (by decide) rfl rfl (Pick.there (Pick.there Pick.here)) isF (List.Mem.head _) rfl rfl (by simp; omega)) (.inr (by rintro _ _ ⟨q'', cap'', rfl, rfl⟩ w h; exact h.subD)) rfl ?_ DAll.nil)
    rintro _ _ ⟨q'', cap'', rfl, rfl⟩
    refine D.all (rs := [12]) (by kernel_rfl) rfl (DAll.cons rfl (by kernel_rfl) (OpQ.loud (q_nilCheck rfl)) (.inl (by kernel_rfl)) rfl ?_ DAll.nil)
    rintro _ _ ⟨rfl, rfl⟩
    refine D.all (rs := [13]) (by kernel_rfl) rfl (DAll.cons rfl (by kernel_rfl) (OpQ.loud (q_field fo_35_0 rfl)) (.inl (by kernel_rfl)) rfl ?_ DAll.nil)
    rintro _ _ ⟨rfl, rfl⟩
    refine D.all (rs := [14]) (by kernel_rfl) rfl (DAll.consN rfl (by kernel_rfl) (l_store1 ck_25 rfl rfl rfl (by repeat (first | exact Pick.here | apply Pick.there)) (by repeat (first | exact SetAt.here | apply SetAt.there))) (.inl (by kernel_rfl)) rfl ?_ DAll.nil)
    rintro _ _ ⟨rfl, rfl⟩
    refine D.done (by kernel_rfl) ?_
    repeat (first | refine K.seq ?_ | refine K.skip ?_ | refine K.block ?_ | refine K.inBlock ?_ | refine K.label ?_)
    repeat (first | refine K.seq ?_ | refine K.skip ?_ | refine K.block ?_ | refine K.inBlock ?_ | refine K.label ?_)
    refine K.region ?_
    refine KO.q rfl (q_add rfl rfl (by first | omega | (simp; omega)) (by first | omega | (simp; omega))) ?_
    refine KO.q rfl (q_move rfl) ?_
    refine KO.done ?_
    repeat (first | refine K.seq ?_ | refine K.skip ?_ | refine K.block ?_ | refine K.inBlock ?_ | refine K.label ?_)
    rw [List.append_assoc, ← leb_succ]
    exact K.weak (by repeat (first | exact Env.sub_nil _ | refine Env.sub_cons rfl ?_)) (fun w h => h.fitD) (ih ⟨(i + 1, q'', cap''), by show i + 1 ≤ m.toNat; omega⟩ (by show m.toNat - (i + 1) < m.toNat - i; omega))
  · replace h : ¬ (i : Int) < m := h
    have hi' : i = m.toNat := by omega
    subst hi'
    refine K.exit rfl ?_
    repeat (first | refine K.seq ?_ | refine K.skip ?_ | refine K.block ?_ | refine K.inBlock ?_ | refine K.label ?_)
    refine K.fin (fn := Try.f64) Try.func64 (fun a w hk hs => res0 Try.results64) (fun w hs => ?_)
    exact ⟨_, WrL p q' cap' (xs ++ leb n m.toNat), rfl, ⟨q', cap', rfl, rfl⟩, hs.fitD⟩
theorem wr_Int (p : Nat) (q : Option Addr) (cap : Nat) (xs : List UInt8) (n : Int) (hb : xs.length ≤ 1099511627776) : Fn Try.prog 25 [.pointer (some ⟨p, 0, none⟩), .int .i64 n].toArray (WrL p q cap xs)
    (fun r post => ∃ q' cap', r = .tuple #[] ∧ post = WrL p q' cap' (xs ++ wInt n)) := by
  have hw : IntKind.u64.wrap n = u64 n := wrap_u64_mod n
  refine Fn.enter (N := 8) Try.func25 rfl Try.ntmps25 (by kernel_rfl) rfl (fun ρ L => ?_)
  repeat (first | refine K.seq ?_ | refine K.skip ?_ | refine K.block ?_ | refine K.inBlock ?_ | refine K.label ?_)
  refine K.region ?_
  refine KO.q rfl (q_move rfl) ?_
  refine KO.q rfl (q_move rfl) ?_
  refine KO.q rfl (q_convw Try.underlying87 (by rw [Try.underlying3]; rfl) rfl) ?_
  refine KO.loud rfl (OpL.callE rfl (wr_number p q cap xs (IntKind.u64.wrap n) 8 (by rw [hw]; exact Int.emod_nonneg _ (by decide)) (by decide) (by decide) hb)) ?_
  rintro _ _ ⟨_, ⟨q', cap', rfl, rfl⟩, rfl⟩
  refine KO.done ?_
  repeat (first | refine K.seq ?_ | refine K.skip ?_ | refine K.block ?_ | refine K.inBlock ?_ | refine K.label ?_)
  refine K.fin (fn := Try.f25) Try.func25 (fun a w hk hs => res0 Try.results25) (fun w hs => ?_)
  rw [hw] at hs
  exact ⟨_, WrL p q' cap' (xs ++ wInt n), rfl, ⟨q', cap', rfl, rfl⟩, hs.fitD⟩
theorem wr_Flag (p : Nat) (q : Option Addr) (cap : Nat) (xs : List UInt8) (b : Bool) (hb : xs.length ≤ 1099511627776) : Fn Try.prog 39 [.pointer (some ⟨p, 0, none⟩), .bool b].toArray (WrL p q cap xs)
    (fun r post => ∃ q' cap', r = .tuple #[] ∧ post = WrL p q' cap' (xs ++ wFlag b)) := by
  cases b
  · refine Fn.enter (N := 23) Try.func39 rfl Try.ntmps39 (by kernel_rfl) rfl (fun ρ L => ?_)
    repeat (first | refine K.seq ?_ | refine K.skip ?_ | refine K.block ?_ | refine K.inBlock ?_ | refine K.label ?_)
    refine K.region ?_
    refine KO.q rfl (q_move rfl) ?_
    refine KO.done ?_
    repeat (first | refine K.seq ?_ | refine K.skip ?_ | refine K.block ?_ | refine K.inBlock ?_ | refine K.label ?_)
    refine K.no rfl ?_
    repeat (first | refine K.seq ?_ | refine K.skip ?_ | refine K.block ?_ | refine K.inBlock ?_ | refine K.label ?_)
    refine K.region ?_
    refine KO.q rfl (q_move rfl) ?_
    refine KO.q rfl (q_move rfl) ?_
    refine KO.q rfl (q_nilCheck rfl) ?_
    refine KO.q rfl (q_field fo_35_0 rfl) ?_
    refine KO.q rfl (q_load1D ck_25 rfl) ?_
    refine KO.loud rfl (l_slice sz_25_1 rfl (by repeat (first | exact Fill.nil | (apply Fill.cons; rfl; rfl; rfl) | exact SetN.nil | apply SetN.cons | exact SetAt.here | apply SetAt.there))) ?_
    rintro _ _ ⟨b19, rfl, rfl⟩
    refine KO.st (fun w h => pv_rowF1 (k := Kd.u8) (0 : UInt8) (fun g => rfl) h) ?_
    refine KO.loud rfl (l_append Kd.u8 se_25 Try.underlying25 ⟨_, ze_5, rfl⟩ (by decide) rfl rfl (Pick.there (Pick.there Pick.here)) isF (List.Mem.head _) rfl rfl (by simp; omega)) ?_
    rintro _ _ ⟨q', cap', rfl, rfl⟩
    refine KO.q rfl (q_nilCheck rfl) ?_
    refine KO.q rfl (q_field fo_35_0 rfl) ?_
    refine KO.loudN rfl (l_store1 ck_25 rfl rfl rfl (by repeat (first | exact Pick.here | apply Pick.there)) (by repeat (first | exact SetAt.here | apply SetAt.there))) ?_
    rintro _ _ ⟨rfl, rfl⟩
    refine KO.done ?_
    repeat (first | refine K.seq ?_ | refine K.skip ?_ | refine K.block ?_ | refine K.inBlock ?_ | refine K.label ?_)
    refine K.fin (fn := Try.f39) Try.func39 (fun a w hk hs => res0 Try.results39) (fun w hs => ?_)
    exact ⟨_, WrL p q' cap' (xs ++ wFlag false), rfl, ⟨q', cap', rfl, rfl⟩, hs.fitD⟩
  · refine Fn.enter (N := 23) Try.func39 rfl Try.ntmps39 (by kernel_rfl) rfl (fun ρ L => ?_)
    repeat (first | refine K.seq ?_ | refine K.skip ?_ | refine K.block ?_ | refine K.inBlock ?_ | refine K.label ?_)
    refine K.region ?_
    refine KO.q rfl (q_move rfl) ?_
    refine KO.done ?_
    repeat (first | refine K.seq ?_ | refine K.skip ?_ | refine K.block ?_ | refine K.inBlock ?_ | refine K.label ?_)
    refine K.yes rfl ?_
    repeat (first | refine K.seq ?_ | refine K.skip ?_ | refine K.block ?_ | refine K.inBlock ?_ | refine K.label ?_)
    refine K.region ?_
    refine KO.q rfl (q_move rfl) ?_
    refine KO.q rfl (q_move rfl) ?_
    refine KO.q rfl (q_nilCheck rfl) ?_
    refine KO.q rfl (q_field fo_35_0 rfl) ?_
    refine KO.q rfl (q_load1D ck_25 rfl) ?_
    refine KO.loud rfl (l_slice sz_25_1 rfl (by repeat (first | exact Fill.nil | (apply Fill.cons; rfl; rfl; rfl) | exact SetN.nil | apply SetN.cons | exact SetAt.here | apply SetAt.there))) ?_
    rintro _ _ ⟨b19, rfl, rfl⟩
    refine KO.st (fun w h => pv_rowF1 (k := Kd.u8) (1 : UInt8) (fun g => rfl) h) ?_
    refine KO.loud rfl (l_append Kd.u8 se_25 Try.underlying25 ⟨_, ze_5, rfl⟩ (by decide) rfl rfl (Pick.there (Pick.there Pick.here)) isF (List.Mem.head _) rfl rfl (by simp; omega)) ?_
    rintro _ _ ⟨q', cap', rfl, rfl⟩
    refine KO.q rfl (q_nilCheck rfl) ?_
    refine KO.q rfl (q_field fo_35_0 rfl) ?_
    refine KO.loudN rfl (l_store1 ck_25 rfl rfl rfl (by repeat (first | exact Pick.here | apply Pick.there)) (by repeat (first | exact SetAt.here | apply SetAt.there))) ?_
    rintro _ _ ⟨rfl, rfl⟩
    refine KO.done ?_
    repeat (first | refine K.seq ?_ | refine K.skip ?_ | refine K.block ?_ | refine K.inBlock ?_ | refine K.label ?_)
    refine K.fin (fn := Try.f39) Try.func39 (fun a w hk hs => res0 Try.results39) (fun w hs => ?_)
    exact ⟨_, WrL p q' cap' (xs ++ wFlag true), rfl, ⟨q', cap', rfl, rfl⟩, hs.fitD⟩
theorem wr_Text (p : Nat) (q : Option Addr) (cap : Nat) (xs : List UInt8) (s : ByteArray) (hb : xs.length ≤ 549755813888) (hz : s.size ≤ 140737488355328) : Fn Try.prog 24 [.pointer (some ⟨p, 0, none⟩), .string s].toArray (WrL p q cap xs)
    (fun r post => ∃ q' cap', r = .tuple #[] ∧ post = WrL p q' cap' (xs ++ wText s)) := by
  have hmin : (if (65535 : Int) < (s.size : Int) then (65535 : Int) else (s.size : Int)) = ((min s.size 65535 : Nat) : Int) := by split <;> omega
  refine Fn.enter (N := 23) Try.func24 rfl Try.ntmps24 (by kernel_rfl) rfl (fun ρ L => ?_)
  repeat (first | refine K.seq ?_ | refine K.skip ?_ | refine K.block ?_ | refine K.inBlock ?_ | refine K.label ?_)
  refine K.region ?_
  refine KO.q rfl (q_move rfl) ?_
  refine KO.q rfl (q_move rfl) ?_
  refine KO.q rfl (q_lenS Try.underlying9 rfl) ?_
  refine KO.q rfl (q_min rfl rfl) ?_
  rw [hmin]
  refine KO.q rfl (q_scutH Try.underlying9 rfl rfl (by first | omega | (simp; omega)) (by first | omega | (simp; omega))) ?_
  refine KO.q rfl (q_assign rfl) ?_
  refine KO.done ?_
  repeat (first | refine K.seq ?_ | refine K.skip ?_ | refine K.block ?_ | refine K.inBlock ?_ | refine K.label ?_)
  have hsz : (s.extract 0 ((min s.size 65535 : Nat) : Int).toNat).size = min s.size 65535 := by simp <;> omega
  repeat (first | refine K.seq ?_ | refine K.skip ?_ | refine K.block ?_ | refine K.inBlock ?_ | refine K.label ?_)
  refine K.region ?_
  refine KO.q rfl (q_move rfl) ?_
  refine KO.q rfl (q_move rfl) ?_
  refine KO.q rfl (q_lenS Try.underlying9 rfl) ?_
  refine KO.q rfl (q_conv Try.underlying87 (by rw [Try.underlying3]; rfl) rfl (wrap_u64 (by omega) (by rw [hsz]; omega))) ?_
  refine KO.loud rfl (OpL.callE rfl (wr_number p q cap xs _ 2 (by omega) (by decide) (by decide) (by omega))) ?_
  rintro _ _ ⟨_, ⟨q', cap', rfl, rfl⟩, rfl⟩
  refine KO.done ?_
  repeat (first | refine K.seq ?_ | refine K.skip ?_ | refine K.block ?_ | refine K.inBlock ?_ | refine K.label ?_)
  have hl2 := leb_length ((s.extract 0 ((min s.size 65535 : Nat) : Int).toNat).size : Int) 2
  repeat (first | refine K.seq ?_ | refine K.skip ?_ | refine K.block ?_ | refine K.inBlock ?_ | refine K.label ?_)
  refine K.region ?_
  refine KO.q rfl (q_move rfl) ?_
  refine KO.q rfl (q_move rfl) ?_
  refine KO.q rfl (q_nilCheck rfl) ?_
  refine KO.q rfl (q_field fo_35_0 rfl) ?_
  refine KO.q rfl (q_load1D ck_25 rfl) ?_
  refine KO.q rfl (q_move rfl) ?_
  refine KO.loud rfl (l_appendS se_25 Try.underlying9 ⟨_, ze_5, rfl⟩ (by decide) rfl rfl (Pick.there Pick.here) rfl (by rw [hsz]; simp [leb_length]; omega)) ?_
  rintro _ _ ⟨q'', cap'', rfl, rfl⟩
  refine KO.q rfl (q_nilCheck rfl) ?_
  refine KO.q rfl (q_field fo_35_0 rfl) ?_
  refine KO.loudN rfl (l_store1 ck_25 rfl rfl rfl (by repeat (first | exact Pick.here | apply Pick.there)) (by repeat (first | exact SetAt.here | apply SetAt.there))) ?_
  rintro _ _ ⟨rfl, rfl⟩
  refine KO.done ?_
  repeat (first | refine K.seq ?_ | refine K.skip ?_ | refine K.block ?_ | refine K.inBlock ?_ | refine K.label ?_)
  refine K.fin (fn := Try.f24) Try.func24 (fun a w hk hs => res0 Try.results24) (fun w hs => ?_)
  have e : xs ++ leb ((s.extract 0 ((min s.size 65535 : Nat) : Int).toNat).size : Int) (2 : Int).toNat ++ bytesOf (s.extract 0 ((min s.size 65535 : Nat) : Int).toNat) = xs ++ wText s := by
    unfold wText
    rw [hsz, List.append_assoc]
    show xs ++ (leb _ 2 ++ _) = _
    congr 2
    have h1 : bytesOf (s.extract 0 ((min s.size 65535 : Nat) : Int).toNat) = (bytesOf s).take (min s.size 65535) := by
      simp [bytesOf]
    rw [h1]
    by_cases h : s.size ≤ 65535
    · rw [Nat.min_eq_left h, List.take_of_length_le (by simp [bytesOf]), List.take_of_length_le (by simp [bytesOf]; exact h)]
    · rw [Nat.min_eq_right (by omega)]
  rw [e] at hs
  exact ⟨_, WrL p q'' cap'' (xs ++ wText s), rfl, ⟨q'', cap'', rfl, rfl⟩, hs.fitD⟩
theorem wr_Bytes (p : Nat) (q : Option Addr) (cap : Nat) (xs : List UInt8) (hb : xs.length ≤ 1099511627776) : Fn Try.prog 27 [.pointer (some ⟨p, 0, none⟩)].toArray (WrL p q cap xs)
    (fun r post => ∃ q' cap', r = .slice q' xs.length cap' ∧ post = RowF Kd.u8 q' xs :: WrL p q cap xs ∧ xs.length ≤ cap') := by
  refine Fn.enter (N := 8) Try.func27 rfl Try.ntmps27 (by kernel_rfl) rfl (fun ρ L => ?_)
  repeat (first | refine K.seq ?_ | refine K.skip ?_ | refine K.block ?_ | refine K.inBlock ?_ | refine K.label ?_)
  refine K.region ?_
  refine KO.q rfl (q_assign rfl) ?_
  refine KO.done ?_
  repeat (first | refine K.seq ?_ | refine K.skip ?_ | refine K.block ?_ | refine K.inBlock ?_ | refine K.label ?_)
  repeat (first | refine K.seq ?_ | refine K.skip ?_ | refine K.block ?_ | refine K.inBlock ?_ | refine K.label ?_)
  refine K.region ?_
  refine KO.q rfl (q_move rfl) ?_
  refine KO.q rfl (q_nilCheck rfl) ?_
  refine KO.q rfl (q_field fo_35_0 rfl) ?_
  refine KO.q rfl (q_load1D ck_25 rfl) ?_
  refine KO.loud rfl (OpL.callE rfl (clone_u8 _ q cap xs isO hb)) ?_
  rintro _ _ ⟨_, ⟨q', cap', rfl, rfl, hc'⟩, rfl⟩
  refine KO.q rfl (q_assign rfl) ?_
  refine KO.done ?_
  repeat (first | refine K.seq ?_ | refine K.skip ?_ | refine K.block ?_ | refine K.inBlock ?_ | refine K.label ?_)
  refine K.st (fun w h => rowO_freeze h) ?_
  refine K.ret (fn := Try.f27) Try.func27 (fun a w hk hs => res1 Try.results27 hk rfl) (fun w hs => ?_)
  exact ⟨_, RowF Kd.u8 q' xs :: WrL p q cap xs, rfl, ⟨q', cap', rfl, rfl, hc'⟩, hs.fitD⟩
end Go.Proofs.Ytlellgnklohclaa.L
