/- Walks: the document's own writer. -/
import Derived.Test.YtlellgnklohclaaR1
import Derived.Test.YtlellgnklohclaaOps7
namespace Go.Proofs.Ytlellgnklohclaa.L
open Go Go.Proofs
attribute [local irreducible] pv fv pt fz RowF RowO rowP old pure_
set_option maxRecDepth 100000
set_option linter.unusedSimpArgs false
set_option linter.unusedVariables false

theorem and_byte (Y : Int) (h0 : 0 ≤ Y) (h1 : Y ≤ 18446744073709551615) : IntKind.u8.wrap (IntKind.u64.wrap ((BitVec.ofInt IntKind.u64.bits Y &&& BitVec.ofInt IntKind.u64.bits 255).toNat)) = IntKind.u8.wrap Y := by
  obtain ⟨m, rfl⟩ := Int.eq_ofNat_of_zero_le h0
  have hm : m ≤ 18446744073709551615 := by omega
  have e1 : (BitVec.ofInt IntKind.u64.bits (m : Int) &&& BitVec.ofInt IntKind.u64.bits 255).toNat = m % 256 := by
    show (BitVec.ofInt 64 (m : Int) &&& BitVec.ofInt 64 ((255 : Nat) : Int)).toNat = _
    rw [BitVec.toNat_and, BitVec.ofInt_natCast, BitVec.ofInt_natCast, BitVec.toNat_ofNat, BitVec.toNat_ofNat, Nat.mod_eq_of_lt (by omega), Nat.mod_eq_of_lt (by omega : (255 : Nat) < 2 ^ 64)]
    exact Nat.and_two_pow_sub_one_eq_mod m 8
  rw [e1, wrap_u8_mod, wrap_u8_mod, wrap_u64 (by omega) (by omega)]
  omega
theorem and_byteI (Y : Int) (h0 : 0 ≤ Y) (h1 : Y ≤ 9223372036854775807) : IntKind.u8.wrap (IntKind.i64.wrap ((BitVec.ofInt IntKind.i64.bits Y &&& BitVec.ofInt IntKind.i64.bits 255).toNat)) = IntKind.u8.wrap Y := by
  obtain ⟨m, rfl⟩ := Int.eq_ofNat_of_zero_le h0
  have hm : m ≤ 9223372036854775807 := by omega
  have e1 : (BitVec.ofInt IntKind.i64.bits (m : Int) &&& BitVec.ofInt IntKind.i64.bits 255).toNat = m % 256 := by
    show (BitVec.ofInt 64 (m : Int) &&& BitVec.ofInt 64 ((255 : Nat) : Int)).toNat = _
    rw [BitVec.toNat_and, BitVec.ofInt_natCast, BitVec.ofInt_natCast, BitVec.toNat_ofNat, BitVec.toNat_ofNat, Nat.mod_eq_of_lt (by omega), Nat.mod_eq_of_lt (by omega : (255 : Nat) < 2 ^ 64)]
    exact Nat.and_two_pow_sub_one_eq_mod m 8
  rw [e1, wrap_u8_mod, wrap_u8_mod, wrap_i64 (by omega) (by omega)]
  omega
theorem fdiv_pow_bounds (x : Int) (k : Nat) (h0 : 0 ≤ x) : 0 ≤ x.fdiv (2 ^ k) ∧ x.fdiv (2 ^ k) ≤ x := by
  have hp : (0 : Int) ≤ 2 ^ k := Int.le_of_lt (Int.pow_pos (by decide))
  rw [Int.fdiv_eq_ediv_of_nonneg _ hp]
  exact ⟨Int.ediv_nonneg h0 hp, Int.ediv_le_self _ h0⟩
abbrev WfL (p : Nat) (q : Option Addr) (cap : Nat) (xs : List UInt8) : List HP := [pv p 52 [.slice q xs.length cap], RowO Kd.u8 5 q cap xs]
theorem wf_Int (p : Nat) (q : Option Addr) (cap : Nat) (xs : List UInt8) (n : Int) (hb : xs.length ≤ 1099511627776) : Fn Try.prog 37 [.pointer (some ⟨p, 0, none⟩), .int .i64 n].toArray (WfL p q cap xs)
    (fun r post => ∃ q' cap', r = .tuple #[] ∧ post = WfL p q' cap' (xs ++ wInt n)) := by
  have hu0 : 0 ≤ u64 n := Int.emod_nonneg _ (by decide)
  have hu1 : u64 n ≤ 18446744073709551615 := by unfold u64; omega
  refine Fn.enter (N := 28) Try.func37 rfl Try.ntmps37 (by kernel_rfl) rfl (fun ρ L => ?_)
  repeat (first | refine K.seq ?_ | refine K.skip ?_ | refine K.block ?_ | refine K.inBlock ?_ | refine K.label ?_)
  refine K.region ?_
  refine KO.q rfl (q_move rfl) ?_
  refine KO.q rfl (q_convw Try.underlying87 (by rw [Try.underlying3]; rfl) rfl) ?_
  refine KO.q rfl (q_assign rfl) ?_
  refine KO.done ?_
  repeat (first | refine K.seq ?_ | refine K.skip ?_ | refine K.block ?_ | refine K.inBlock ?_ | refine K.label ?_)
  rw [wrap_u64_mod, show n % 18446744073709551616 = u64 n from rfl]
  repeat (first | refine K.seq ?_ | refine K.skip ?_ | refine K.block ?_ | refine K.inBlock ?_ | refine K.label ?_)
  refine K.region ?_
  refine KO.q rfl (q_assign rfl) ?_
  refine KO.done ?_
  repeat (first | refine K.seq ?_ | refine K.skip ?_ | refine K.block ?_ | refine K.inBlock ?_ | refine K.label ?_)
  repeat (first | refine K.seq ?_ | refine K.skip ?_ | refine K.block ?_ | refine K.inBlock ?_ | refine K.label ?_)
  refine K.rounds (ι := { i : Nat × Option Addr × Nat // i.1 ≤ 8 }) (fun i => ([(5, .int .i64 (i.1.1 : Int)), (0, .pointer (some ⟨p, 0, none⟩)), (4, .int .u64 (u64 n))], WfL p i.1.2.1 i.1.2.2 (xs ++ leb (u64 n) i.1.1) ++ L)) (fun i => 8 - i.1.1) ⟨(0, q, cap), Nat.zero_le _⟩ (by repeat (first | exact Env.sub_nil _ | refine Env.sub_cons rfl ?_)) (fun w h => by rw [show leb (u64 n) 0 = [] from rfl, List.append_nil]; exact h) (fun i ih => ?_)
  obtain ⟨⟨i, q', cap'⟩, hi⟩ := i
  replace hi : i ≤ 8 := hi
  have hlen := leb_length (u64 n) i
  repeat (first | refine K.seq ?_ | refine K.skip ?_ | refine K.block ?_ | refine K.inBlock ?_ | refine K.label ?_)
  refine K.region ?_
  refine KO.q rfl (q_move rfl) ?_
  refine KO.q rfl (q_lt rfl rfl) ?_
  refine KO.done ?_
  repeat (first | refine K.seq ?_ | refine K.skip ?_ | refine K.block ?_ | refine K.inBlock ?_ | refine K.label ?_)
  refine K.dite rfl (fun h => ?_) (fun h => ?_)
  · replace h : (i : Int) < 8 := h
    repeat (first | refine K.seq ?_ | refine K.skip ?_ | refine K.block ?_ | refine K.inBlock ?_ | refine K.label ?_)
    have hbw := byte_wrap (u64 n) i (by omega) hu0
    have hfb := fdiv_pow_bounds (u64 n) (min (8 * (i : Int)).toNat IntKind.u64.bits) hu0
    have hab := and_byte ((u64 n).fdiv (2 ^ (min (8 * (i : Int)).toNat IntKind.u64.bits))) hfb.1 (by omega)
    repeat (first | refine K.seq ?_ | refine K.skip ?_ | refine K.block ?_ | refine K.inBlock ?_ | refine K.label ?_)
    refine K.region ?_
    refine KO.q rfl (q_move rfl) ?_
    refine KO.q rfl (q_move rfl) ?_
    refine KO.q rfl (q_nilCheck rfl) ?_
    refine KO.q rfl (q_field fo_52_0 rfl) ?_
    refine KO.q rfl (q_load1 ck_25 rfl (by first | (apply cell_pv; (repeat (first | exact List.Mem.head _ | apply List.Mem.tail)); rfl) | (apply cell_fv; (repeat (first | exact List.Mem.head _ | apply List.Mem.tail)); rfl) | (apply rowF_cellU; (repeat (first | exact List.Mem.head _ | apply List.Mem.tail)); assumption) | (apply itm_cell; (repeat (first | exact List.Mem.head _ | apply List.Mem.tail)); assumption; rfl))) ?_
    refine KO.q rfl (q_move rfl) ?_
    refine KO.q rfl (q_move rfl) ?_
    refine KO.q rfl (q_mul rfl rfl (by first | omega | (simp; omega)) (by first | omega | (simp; omega))) ?_
    have hconv : IntKind.u64.wrap (8 * (i : Int)) = 8 * (i : Int) := wrap_u64 (by omega) (by omega)
    refine KO.q rfl (q_conv Try.underlying97 (by rw [Try.underlying3]; rfl) rfl hconv) ?_
    refine KO.q rfl (q_shr rfl rfl (by first | omega | (simp; omega))) ?_
    refine KO.q rfl (q_and rfl rfl) ?_
    refine KO.q rfl (q_convw Try.underlying5 (by rw [Try.underlying87]; rfl) rfl) ?_
    refine KO.loud rfl (l_slice sz_25_1 rfl (by repeat (first | exact Fill.nil | (apply Fill.cons; rfl; rfl; rfl) | exact SetN.nil | apply SetN.cons | exact SetAt.here | apply SetAt.there))) ?_
    rintro _ _ ⟨b24, rfl, rfl⟩
    refine KO.st (fun w h => pv_rowF1 (k := Kd.u8) (byteAt (u64 n) i) (fun g => congrArg (fun z => [Value.int .u8 z]) (hab.trans hbw)) h) ?_
    refine KO.loud rfl (l_append Kd.u8 se_25 Try.underlying25 ⟨_, ze_5, rfl⟩ (by decide) rfl rfl (by repeat (first | exact Pick.here | apply Pick.there)) isF (List.Mem.head _) rfl rfl (by simp; omega)) ?_
    rintro _ _ ⟨q'', cap'', rfl, rfl⟩
    refine KO.q rfl (q_nilCheck rfl) ?_
    refine KO.q rfl (q_field fo_52_0 rfl) ?_
    refine KO.loudN rfl (l_store1 ck_25 rfl rfl rfl (by repeat (first | exact Pick.here | apply Pick.there)) (by repeat (first | exact SetAt.here | apply SetAt.there))) ?_
    rintro _ _ ⟨rfl, rfl⟩
    refine KO.done ?_
    repeat (first | refine K.seq ?_ | refine K.skip ?_ | refine K.block ?_ | refine K.inBlock ?_ | refine K.label ?_)
    repeat (first | refine K.seq ?_ | refine K.skip ?_ | refine K.block ?_ | refine K.inBlock ?_ | refine K.label ?_)
    refine K.region ?_
    refine KO.q rfl (q_move rfl) ?_
    refine KO.q rfl (q_add rfl rfl (by first | omega | (simp; omega)) (by first | omega | (simp; omega))) ?_
    refine KO.q rfl (q_assign rfl) ?_
    refine KO.done ?_
    repeat (first | refine K.seq ?_ | refine K.skip ?_ | refine K.block ?_ | refine K.inBlock ?_ | refine K.label ?_)
    rw [List.append_assoc, ← leb_succ]
    exact K.weak (by repeat (first | exact Env.sub_nil _ | refine Env.sub_cons rfl ?_)) (fun w h => h.fit (by repeat (first | exact Give.nil | (apply Give.perI; (repeat (first | exact List.Mem.head _ | apply List.Mem.tail))) | (apply Give.own; (repeat (first | exact Pick.here | apply Pick.there))))) (by repeat (first | exact Drop.refl | apply Drop.skip))) (ih ⟨(i + 1, q'', cap''), by show i + 1 ≤ 8; omega⟩ (by show 8 - (i + 1) < 8 - i; omega))
  · replace h : ¬ (i : Int) < 8 := h
    have hi' : i = 8 := by omega
    subst hi'
    refine K.exit rfl ?_
    repeat (first | refine K.seq ?_ | refine K.skip ?_ | refine K.block ?_ | refine K.inBlock ?_ | refine K.label ?_)
    refine K.fin (fn := Try.f37) Try.func37 (fun a w hk hs => res0 Try.results37) (fun w hs => ?_)
    exact ⟨_, WfL p q' cap' (xs ++ wInt n), rfl, ⟨q', cap', rfl, rfl⟩, hs.fit (by repeat (first | exact Give.nil | (apply Give.perI; (repeat (first | exact List.Mem.head _ | apply List.Mem.tail))) | (apply Give.own; (repeat (first | exact Pick.here | apply Pick.there))))) (by repeat (first | exact Drop.refl | apply Drop.skip))⟩
theorem wf_Flag (p : Nat) (q : Option Addr) (cap : Nat) (xs : List UInt8) (b : Bool) (hb : xs.length ≤ 1099511627776) : Fn Try.prog 40 [.pointer (some ⟨p, 0, none⟩), .bool b].toArray (WfL p q cap xs)
    (fun r post => ∃ q' cap', r = .tuple #[] ∧ post = WfL p q' cap' (xs ++ wFlag b)) := by
  cases b
  · refine Fn.enter (N := 16) Try.func40 rfl Try.ntmps40 (by kernel_rfl) rfl (fun ρ L => ?_)
    repeat (first | refine K.seq ?_ | refine K.skip ?_ | refine K.block ?_ | refine K.inBlock ?_ | refine K.label ?_)
    refine K.region ?_
    refine KO.q rfl (q_assign rfl) ?_
    refine KO.done ?_
    repeat (first | refine K.seq ?_ | refine K.skip ?_ | refine K.block ?_ | refine K.inBlock ?_ | refine K.label ?_)
    repeat (first | refine K.seq ?_ | refine K.skip ?_ | refine K.block ?_ | refine K.inBlock ?_ | refine K.label ?_)
    refine K.region ?_
    refine KO.q rfl (q_move rfl) ?_
    refine KO.done ?_
    repeat (first | refine K.seq ?_ | refine K.skip ?_ | refine K.block ?_ | refine K.inBlock ?_ | refine K.label ?_)
    refine K.no rfl ?_
    repeat (first | refine K.seq ?_ | refine K.skip ?_ | refine K.block ?_ | refine K.inBlock ?_ | refine K.label ?_)
    refine K.region ?_
    refine KO.q rfl (q_move rfl) ?_
    refine KO.q rfl (q_move rfl) ?_
    refine KO.q rfl (q_nilCheck rfl) ?_
    refine KO.q rfl (q_field fo_52_0 rfl) ?_
    refine KO.q rfl (q_load1 ck_25 rfl (by first | (apply cell_pv; (repeat (first | exact List.Mem.head _ | apply List.Mem.tail)); rfl) | (apply cell_fv; (repeat (first | exact List.Mem.head _ | apply List.Mem.tail)); rfl) | (apply rowF_cellU; (repeat (first | exact List.Mem.head _ | apply List.Mem.tail)); assumption) | (apply itm_cell; (repeat (first | exact List.Mem.head _ | apply List.Mem.tail)); assumption; rfl))) ?_
    refine KO.q rfl (q_move rfl) ?_
    refine KO.loud rfl (l_slice sz_25_1 rfl (by repeat (first | exact Fill.nil | (apply Fill.cons; rfl; rfl; rfl) | exact SetN.nil | apply SetN.cons | exact SetAt.here | apply SetAt.there))) ?_
    rintro _ _ ⟨b19, rfl, rfl⟩
    refine KO.st (fun w h => pv_rowF1 (k := Kd.u8) (0 : UInt8) (fun g => rfl) h) ?_
    refine KO.loud rfl (l_append Kd.u8 se_25 Try.underlying25 ⟨_, ze_5, rfl⟩ (by decide) rfl rfl (by repeat (first | exact Pick.here | apply Pick.there)) isF (List.Mem.head _) rfl rfl (by simp; omega)) ?_
    rintro _ _ ⟨q', cap', rfl, rfl⟩
    refine KO.q rfl (q_nilCheck rfl) ?_
    refine KO.q rfl (q_field fo_52_0 rfl) ?_
    refine KO.loudN rfl (l_store1 ck_25 rfl rfl rfl (by repeat (first | exact Pick.here | apply Pick.there)) (by repeat (first | exact SetAt.here | apply SetAt.there))) ?_
    rintro _ _ ⟨rfl, rfl⟩
    refine KO.done ?_
    repeat (first | refine K.seq ?_ | refine K.skip ?_ | refine K.block ?_ | refine K.inBlock ?_ | refine K.label ?_)
    refine K.fin (fn := Try.f40) Try.func40 (fun a w hk hs => res0 Try.results40) (fun w hs => ?_)
    exact ⟨_, WfL p q' cap' (xs ++ wFlag false), rfl, ⟨q', cap', rfl, rfl⟩, hs.fit (by repeat (first | exact Give.nil | (apply Give.perI; (repeat (first | exact List.Mem.head _ | apply List.Mem.tail))) | (apply Give.own; (repeat (first | exact Pick.here | apply Pick.there))))) (by repeat (first | exact Drop.refl | apply Drop.skip))⟩
  · refine Fn.enter (N := 16) Try.func40 rfl Try.ntmps40 (by kernel_rfl) rfl (fun ρ L => ?_)
    repeat (first | refine K.seq ?_ | refine K.skip ?_ | refine K.block ?_ | refine K.inBlock ?_ | refine K.label ?_)
    refine K.region ?_
    refine KO.q rfl (q_assign rfl) ?_
    refine KO.done ?_
    repeat (first | refine K.seq ?_ | refine K.skip ?_ | refine K.block ?_ | refine K.inBlock ?_ | refine K.label ?_)
    repeat (first | refine K.seq ?_ | refine K.skip ?_ | refine K.block ?_ | refine K.inBlock ?_ | refine K.label ?_)
    refine K.region ?_
    refine KO.q rfl (q_move rfl) ?_
    refine KO.done ?_
    repeat (first | refine K.seq ?_ | refine K.skip ?_ | refine K.block ?_ | refine K.inBlock ?_ | refine K.label ?_)
    refine K.yes rfl ?_
    repeat (first | refine K.seq ?_ | refine K.skip ?_ | refine K.block ?_ | refine K.inBlock ?_ | refine K.label ?_)
    refine K.region ?_
    refine KO.q rfl (q_assign rfl) ?_
    refine KO.done ?_
    repeat (first | refine K.seq ?_ | refine K.skip ?_ | refine K.block ?_ | refine K.inBlock ?_ | refine K.label ?_)
    repeat (first | refine K.seq ?_ | refine K.skip ?_ | refine K.block ?_ | refine K.inBlock ?_ | refine K.label ?_)
    refine K.region ?_
    refine KO.q rfl (q_move rfl) ?_
    refine KO.q rfl (q_move rfl) ?_
    refine KO.q rfl (q_nilCheck rfl) ?_
    refine KO.q rfl (q_field fo_52_0 rfl) ?_
    refine KO.q rfl (q_load1 ck_25 rfl (by first | (apply cell_pv; (repeat (first | exact List.Mem.head _ | apply List.Mem.tail)); rfl) | (apply cell_fv; (repeat (first | exact List.Mem.head _ | apply List.Mem.tail)); rfl) | (apply rowF_cellU; (repeat (first | exact List.Mem.head _ | apply List.Mem.tail)); assumption) | (apply itm_cell; (repeat (first | exact List.Mem.head _ | apply List.Mem.tail)); assumption; rfl))) ?_
    refine KO.q rfl (q_move rfl) ?_
    refine KO.loud rfl (l_slice sz_25_1 rfl (by repeat (first | exact Fill.nil | (apply Fill.cons; rfl; rfl; rfl) | exact SetN.nil | apply SetN.cons | exact SetAt.here | apply SetAt.there))) ?_
    rintro _ _ ⟨b19, rfl, rfl⟩
    refine KO.st (fun w h => pv_rowF1 (k := Kd.u8) (1 : UInt8) (fun g => rfl) h) ?_
    refine KO.loud rfl (l_append Kd.u8 se_25 Try.underlying25 ⟨_, ze_5, rfl⟩ (by decide) rfl rfl (by repeat (first | exact Pick.here | apply Pick.there)) isF (List.Mem.head _) rfl rfl (by simp; omega)) ?_
    rintro _ _ ⟨q', cap', rfl, rfl⟩
    refine KO.q rfl (q_nilCheck rfl) ?_
    refine KO.q rfl (q_field fo_52_0 rfl) ?_
    refine KO.loudN rfl (l_store1 ck_25 rfl rfl rfl (by repeat (first | exact Pick.here | apply Pick.there)) (by repeat (first | exact SetAt.here | apply SetAt.there))) ?_
    rintro _ _ ⟨rfl, rfl⟩
    refine KO.done ?_
    repeat (first | refine K.seq ?_ | refine K.skip ?_ | refine K.block ?_ | refine K.inBlock ?_ | refine K.label ?_)
    refine K.fin (fn := Try.f40) Try.func40 (fun a w hk hs => res0 Try.results40) (fun w hs => ?_)
    exact ⟨_, WfL p q' cap' (xs ++ wFlag true), rfl, ⟨q', cap', rfl, rfl⟩, hs.fit (by repeat (first | exact Give.nil | (apply Give.perI; (repeat (first | exact List.Mem.head _ | apply List.Mem.tail))) | (apply Give.own; (repeat (first | exact Pick.here | apply Pick.there))))) (by repeat (first | exact Drop.refl | apply Drop.skip))⟩
theorem wf_Text (p : Nat) (q : Option Addr) (cap : Nat) (xs : List UInt8) (s : ByteArray) (hb : xs.length ≤ 549755813888) (hz : s.size ≤ 65535) : Fn Try.prog 38 [.pointer (some ⟨p, 0, none⟩), .string s].toArray (WfL p q cap xs)
    (fun r post => ∃ q' cap', r = .tuple #[] ∧ post = WfL p q' cap' (xs ++ wText s)) := by
  have hbw0 := byte_wrap (s.size : Int) 0 (by omega) (by omega)
  have hbw1 := byte_wrap (s.size : Int) 1 (by omega) (by omega)
  have hab := and_byteI (s.size : Int) (by omega) (by omega)
  have h0 : IntKind.u8.wrap (s.size : Int) = ((byteAt (s.size : Int) 0).toNat : Int) := by rw [byteAt_toNat, wrap_u8_mod]; simp
  have e : xs ++ [byteAt (s.size : Int) 0, byteAt (s.size : Int) 1] ++ bytesOf s = xs ++ wText s := by
    unfold wText
    rw [Nat.min_eq_left hz, List.take_of_length_le (by rw [bytesOf_length]; exact hz), List.append_assoc]
    rfl
  refine Fn.enter (N := 35) Try.func38 rfl Try.ntmps38 (by kernel_rfl) rfl (fun ρ L => ?_)
  repeat (first | refine K.seq ?_ | refine K.skip ?_ | refine K.block ?_ | refine K.inBlock ?_ | refine K.label ?_)
  refine K.region ?_
  refine KO.q rfl (q_move rfl) ?_
  refine KO.q rfl (q_lenS Try.underlying9 rfl) ?_
  refine KO.q rfl (q_gt rfl rfl) ?_
  refine KO.done ?_
  repeat (first | refine K.seq ?_ | refine K.skip ?_ | refine K.block ?_ | refine K.inBlock ?_ | refine K.label ?_)
  refine K.dite rfl (fun h => absurd h (by omega)) (fun _ => ?_)
  repeat (first | refine K.seq ?_ | refine K.skip ?_ | refine K.block ?_ | refine K.inBlock ?_ | refine K.label ?_)
  repeat (first | refine K.seq ?_ | refine K.skip ?_ | refine K.block ?_ | refine K.inBlock ?_ | refine K.label ?_)
  refine K.region ?_
  refine KO.q rfl (q_move rfl) ?_
  refine KO.q rfl (q_move rfl) ?_
  refine KO.q rfl (q_nilCheck rfl) ?_
  refine KO.q rfl (q_field fo_52_0 rfl) ?_
  refine KO.q rfl (q_load1 ck_25 rfl (by first | (apply cell_pv; (repeat (first | exact List.Mem.head _ | apply List.Mem.tail)); rfl) | (apply cell_fv; (repeat (first | exact List.Mem.head _ | apply List.Mem.tail)); rfl) | (apply rowF_cellU; (repeat (first | exact List.Mem.head _ | apply List.Mem.tail)); assumption) | (apply itm_cell; (repeat (first | exact List.Mem.head _ | apply List.Mem.tail)); assumption; rfl))) ?_
  refine KO.q rfl (q_move rfl) ?_
  refine KO.q rfl (q_lenS Try.underlying9 rfl) ?_
  refine KO.q rfl (q_and rfl rfl) ?_
  refine KO.q rfl (q_convw Try.underlying5 (by rw [Try.underlying3]; rfl) rfl) ?_
  refine KO.q rfl (q_move rfl) ?_
  refine KO.q rfl (q_lenS Try.underlying9 rfl) ?_
  refine KO.q rfl (q_shr rfl rfl (by first | omega | (simp; omega))) ?_
  refine KO.q rfl (q_convw Try.underlying5 (by rw [Try.underlying3]; rfl) rfl) ?_
  refine KO.loud rfl (l_slice sz_25_2 rfl (by repeat (first | exact Fill.nil | (apply Fill.cons; rfl; rfl; rfl) | exact SetN.nil | apply SetN.cons | exact SetAt.here | apply SetAt.there))) ?_
  rintro _ _ ⟨b22, rfl, rfl⟩
  refine KO.st (fun w h => pv_rowU [byteAt (s.size : Int) 0, byteAt (s.size : Int) 1] (show [Value.int .u8 _, Value.int .u8 _] = [Value.int .u8 _, Value.int .u8 _] from congr (congrArg List.cons (congrArg (Value.int .u8) (hab.trans h0))) (congrArg (fun z => [Value.int .u8 z]) hbw1)) h) ?_
  refine KO.loud rfl (l_append Kd.u8 se_25 Try.underlying25 ⟨_, ze_5, rfl⟩ (by decide) rfl rfl (by repeat (first | exact Pick.here | apply Pick.there)) isF (List.Mem.head _) rfl rfl (by simp; omega)) ?_
  rintro _ _ ⟨q', cap', rfl, rfl⟩
  refine KO.q rfl (q_nilCheck rfl) ?_
  refine KO.q rfl (q_field fo_52_0 rfl) ?_
  refine KO.loudN rfl (l_store1 ck_25 rfl rfl rfl (by repeat (first | exact Pick.here | apply Pick.there)) (by repeat (first | exact SetAt.here | apply SetAt.there))) ?_
  rintro _ _ ⟨rfl, rfl⟩
  refine KO.done ?_
  repeat (first | refine K.seq ?_ | refine K.skip ?_ | refine K.block ?_ | refine K.inBlock ?_ | refine K.label ?_)
  repeat (first | refine K.seq ?_ | refine K.skip ?_ | refine K.block ?_ | refine K.inBlock ?_ | refine K.label ?_)
  refine K.region ?_
  refine KO.q rfl (q_move rfl) ?_
  refine KO.q rfl (q_move rfl) ?_
  refine KO.q rfl (q_nilCheck rfl) ?_
  refine KO.q rfl (q_field fo_52_0 rfl) ?_
  refine KO.q rfl (q_load1 ck_25 rfl (by first | (apply cell_pv; (repeat (first | exact List.Mem.head _ | apply List.Mem.tail)); rfl) | (apply cell_fv; (repeat (first | exact List.Mem.head _ | apply List.Mem.tail)); rfl) | (apply rowF_cellU; (repeat (first | exact List.Mem.head _ | apply List.Mem.tail)); assumption) | (apply itm_cell; (repeat (first | exact List.Mem.head _ | apply List.Mem.tail)); assumption; rfl))) ?_
  refine KO.q rfl (q_move rfl) ?_
  refine KO.loud rfl (l_appendS se_25 Try.underlying9 ⟨_, ze_5, rfl⟩ (by decide) rfl rfl (by repeat (first | exact Pick.here | apply Pick.there)) rfl (by simp; omega)) ?_
  rintro _ _ ⟨q'', cap'', rfl, rfl⟩
  refine KO.q rfl (q_nilCheck rfl) ?_
  refine KO.q rfl (q_field fo_52_0 rfl) ?_
  refine KO.loudN rfl (l_store1 ck_25 rfl rfl rfl (by repeat (first | exact Pick.here | apply Pick.there)) (by repeat (first | exact SetAt.here | apply SetAt.there))) ?_
  rintro _ _ ⟨rfl, rfl⟩
  refine KO.done ?_
  repeat (first | refine K.seq ?_ | refine K.skip ?_ | refine K.block ?_ | refine K.inBlock ?_ | refine K.label ?_)
  rw [e]
  refine K.fin (fn := Try.f38) Try.func38 (fun a w hk hs => res0 Try.results38) (fun w hs => ?_)
  exact ⟨_, WfL p q'' cap'' (xs ++ wText s), rfl, ⟨q'', cap'', rfl, rfl⟩, hs.fit (by repeat (first | exact Give.nil | (apply Give.perI; (repeat (first | exact List.Mem.head _ | apply List.Mem.tail))) | (apply Give.own; (repeat (first | exact Pick.here | apply Pick.there))))) (by repeat (first | exact Drop.refl | apply Drop.skip))⟩
end Go.Proofs.Ytlellgnklohclaa.L
