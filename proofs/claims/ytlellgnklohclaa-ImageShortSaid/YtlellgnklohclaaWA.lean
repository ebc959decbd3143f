/- Walks: small predicates. Walks: the reader of package bytes. Walks: the reader of package bytes, continued. Walks: the reader of package bytes: Int, Text, Flag, Done, NewReader. -/
import Derived.Test.YtlellgnklohclaaLC
import Derived.Test.YtlellgnklohclaaTab
import Derived.Test.YtlellgnklohclaaPA
/-! Walks: small predicates. -/
namespace Go.Proofs.Ytlellgnklohclaa.L
open Go Go.Proofs
attribute [local irreducible] pv fv pt fz RowF RowO rowP old pure_
set_option maxRecDepth 100000
set_option linter.unusedSimpArgs false
set_option linter.unusedVariables false

theorem rows_Key (s : ByteArray) : Fn Try.prog 77 [.string s].toArray [] (fun v post => v = .bool (decide (1 ≤ (s.size : Int)) && decide ((s.size : Int) ≤ 40)) ∧ post = []) := by
  refine Fn.enter (N := 11) Try.func77 rfl Try.ntmps77 (by kernel_rfl) rfl (fun ρ L => ?_)
  repeat (first | refine K.seq ?_ | refine K.skip ?_ | refine K.block ?_ | refine K.inBlock ?_ | refine K.label ?_)
  refine K.region ?_
  refine KO.q rfl (q_assign rfl) ?_
  refine KO.done ?_
  repeat (first | refine K.seq ?_ | refine K.skip ?_ | refine K.block ?_ | refine K.inBlock ?_ | refine K.label ?_)
  repeat (first | refine K.seq ?_ | refine K.skip ?_ | refine K.block ?_ | refine K.inBlock ?_ | refine K.label ?_)
  refine K.region ?_
  refine KO.q rfl (q_move rfl) ?_
  refine KO.q rfl (q_lenS Try.underlying9 rfl) ?_
  refine KO.q rfl (q_ge rfl rfl) ?_
  refine KO.q rfl (q_move rfl) ?_
  refine KO.dsplit 6 rfl (fun g6 => ?_) (fun g6 => ?_)
  · refine KO.q rfl (q_move rfl) ?_
    refine KO.q rfl (q_lenS Try.underlying9 rfl) ?_
    refine KO.q rfl (q_le rfl rfl) ?_
    refine KO.q rfl (q_pickT rfl rfl) ?_
    refine KO.q rfl (q_assign rfl) ?_
    refine KO.done ?_
    repeat (first | refine K.seq ?_ | refine K.skip ?_ | refine K.block ?_ | refine K.inBlock ?_ | refine K.label ?_)
    refine K.ret (fn := Try.f77) Try.func77 (fun a w hk hs => res1 Try.results77 hk rfl) (fun w hs => ?_)
    exact ⟨_, [], rfl, ⟨by simp [*], rfl⟩, hs⟩
  · refine KO.skip rfl ?_
    refine KO.skip rfl ?_
    refine KO.skip rfl ?_
    refine KO.q rfl (q_pickF rfl rfl) ?_
    refine KO.q rfl (q_assign rfl) ?_
    refine KO.done ?_
    repeat (first | refine K.seq ?_ | refine K.skip ?_ | refine K.block ?_ | refine K.inBlock ?_ | refine K.label ?_)
    refine K.ret (fn := Try.f77) Try.func77 (fun a w hk hs => res1 Try.results77 hk rfl) (fun w hs => ?_)
    exact ⟨_, [], rfl, ⟨by simp [*], rfl⟩, hs⟩
theorem message_Right (a b c : Int) (d : Bool) (s t : ByteArray) : Fn Try.prog 17 [.agg #[.int .i64 a, .int .i64 b, .int .i64 c, .bool d, .string s, .string t]].toArray [] (fun v post => v = .bool (decide (1 ≤ a) && decide (a ≤ 1099511627776) && decide (-1000 ≤ b) && decide (b ≤ 1000) && decide (0 ≤ c) && decide (c ≤ 1000) && decide ((s.size : Int) ≤ 40) && decide ((t.size : Int) ≤ 100)) ∧ post = []) := by
  refine Fn.enter (N := 43) Try.func17 rfl Try.ntmps17 (by kernel_rfl) rfl (fun ρ L => ?_)
  repeat (first | refine K.seq ?_ | refine K.skip ?_ | refine K.block ?_ | refine K.inBlock ?_ | refine K.label ?_)
  refine K.region ?_
  refine KO.loud rfl (l_box rfl rfl) ?_
  rintro _ _ ⟨b1, rfl, rfl⟩
  refine KO.q rfl (q_assign rfl) ?_
  refine KO.done ?_
  repeat (first | refine K.seq ?_ | refine K.skip ?_ | refine K.block ?_ | refine K.inBlock ?_ | refine K.label ?_)
  repeat (first | refine K.seq ?_ | refine K.skip ?_ | refine K.block ?_ | refine K.inBlock ?_ | refine K.label ?_)
  refine K.region ?_
  refine KO.q rfl (q_field fo_24_0 rfl) ?_
  refine KO.q rfl (q_load1D ck_3 rfl) ?_
  refine KO.q rfl (q_ge rfl rfl) ?_
  refine KO.q rfl (q_move rfl) ?_
  refine KO.dsplit 6 rfl (fun g6 => ?_) (fun g6 => ?_)
  · refine KO.q rfl (q_field fo_24_0 rfl) ?_
    refine KO.q rfl (q_load1D ck_3 rfl) ?_
    refine KO.q rfl (q_le rfl rfl) ?_
    refine KO.q rfl (q_pickT rfl rfl) ?_
    refine KO.q rfl (q_move rfl) ?_
    refine KO.dsplit 11 rfl (fun g11 => ?_) (fun g11 => ?_)
    · refine KO.q rfl (q_field fo_24_1 rfl) ?_
      refine KO.q rfl (q_load1D ck_3 rfl) ?_
      refine KO.q rfl (q_ge rfl rfl) ?_
      refine KO.q rfl (q_pickT rfl rfl) ?_
      refine KO.q rfl (q_move rfl) ?_
      refine KO.dsplit 16 rfl (fun g16 => ?_) (fun g16 => ?_)
      · refine KO.q rfl (q_field fo_24_1 rfl) ?_
        refine KO.q rfl (q_load1D ck_3 rfl) ?_
        refine KO.q rfl (q_le rfl rfl) ?_
        refine KO.q rfl (q_pickT rfl rfl) ?_
        refine KO.q rfl (q_move rfl) ?_
        refine KO.dsplit 21 rfl (fun g21 => ?_) (fun g21 => ?_)
        · refine KO.q rfl (q_field fo_24_2 rfl) ?_
          refine KO.q rfl (q_load1D ck_3 rfl) ?_
          refine KO.q rfl (q_ge rfl rfl) ?_
          refine KO.q rfl (q_pickT rfl rfl) ?_
          refine KO.q rfl (q_move rfl) ?_
          refine KO.dsplit 26 rfl (fun g26 => ?_) (fun g26 => ?_)
          · refine KO.q rfl (q_field fo_24_2 rfl) ?_
            refine KO.q rfl (q_load1D ck_3 rfl) ?_
            refine KO.q rfl (q_le rfl rfl) ?_
            refine KO.q rfl (q_pickT rfl rfl) ?_
            refine KO.q rfl (q_move rfl) ?_
            refine KO.dsplit 31 rfl (fun g31 => ?_) (fun g31 => ?_)
            · refine KO.q rfl (q_field fo_24_4 rfl) ?_
              refine KO.q rfl (q_load1D ck_9 rfl) ?_
              refine KO.q rfl (q_lenS Try.underlying9 rfl) ?_
              refine KO.q rfl (q_le rfl rfl) ?_
              refine KO.q rfl (q_pickT rfl rfl) ?_
              refine KO.q rfl (q_move rfl) ?_
              refine KO.dsplit 37 rfl (fun g37 => ?_) (fun g37 => ?_)
              · refine KO.q rfl (q_field fo_24_5 rfl) ?_
                refine KO.q rfl (q_load1D ck_9 rfl) ?_
                refine KO.q rfl (q_lenS Try.underlying9 rfl) ?_
                refine KO.q rfl (q_le rfl rfl) ?_
                refine KO.q rfl (q_pickT rfl rfl) ?_
                refine KO.q rfl (q_assign rfl) ?_
                refine KO.done ?_
                repeat (first | refine K.seq ?_ | refine K.skip ?_ | refine K.block ?_ | refine K.inBlock ?_ | refine K.label ?_)
                refine K.ret (fn := Try.f17) Try.func17 (fun a w hk hs => res1 Try.results17 hk rfl) (fun w hs => ?_)
                exact ⟨_, [], rfl, ⟨by simp [*], rfl⟩, hs.tail⟩
              · refine KO.skip rfl ?_
                refine KO.skip rfl ?_
                refine KO.skip rfl ?_
                refine KO.skip rfl ?_
                refine KO.q rfl (q_pickF rfl rfl) ?_
                refine KO.q rfl (q_assign rfl) ?_
                refine KO.done ?_
                repeat (first | refine K.seq ?_ | refine K.skip ?_ | refine K.block ?_ | refine K.inBlock ?_ | refine K.label ?_)
                refine K.ret (fn := Try.f17) Try.func17 (fun a w hk hs => res1 Try.results17 hk rfl) (fun w hs => ?_)
                exact ⟨_, [], rfl, ⟨by simp [*], rfl⟩, hs.tail⟩
            · refine KO.skip rfl ?_
              refine KO.skip rfl ?_
              refine KO.skip rfl ?_
              refine KO.skip rfl ?_
              refine KO.q rfl (q_pickF rfl rfl) ?_
              refine KO.q rfl (q_move rfl) ?_
              refine KO.skip rfl ?_
              refine KO.skip rfl ?_
              refine KO.skip rfl ?_
              refine KO.skip rfl ?_
              refine KO.q rfl (q_pickF rfl rfl) ?_
              refine KO.q rfl (q_assign rfl) ?_
              refine KO.done ?_
              repeat (first | refine K.seq ?_ | refine K.skip ?_ | refine K.block ?_ | refine K.inBlock ?_ | refine K.label ?_)
              refine K.ret (fn := Try.f17) Try.func17 (fun a w hk hs => res1 Try.results17 hk rfl) (fun w hs => ?_)
              exact ⟨_, [], rfl, ⟨by simp [*], rfl⟩, hs.tail⟩
          · refine KO.skip rfl ?_
            refine KO.skip rfl ?_
            refine KO.skip rfl ?_
            refine KO.q rfl (q_pickF rfl rfl) ?_
            refine KO.q rfl (q_move rfl) ?_
            refine KO.skip rfl ?_
            refine KO.skip rfl ?_
            refine KO.skip rfl ?_
            refine KO.skip rfl ?_
            refine KO.q rfl (q_pickF rfl rfl) ?_
            refine KO.q rfl (q_move rfl) ?_
            refine KO.skip rfl ?_
            refine KO.skip rfl ?_
            refine KO.skip rfl ?_
            refine KO.skip rfl ?_
            refine KO.q rfl (q_pickF rfl rfl) ?_
            refine KO.q rfl (q_assign rfl) ?_
            refine KO.done ?_
            repeat (first | refine K.seq ?_ | refine K.skip ?_ | refine K.block ?_ | refine K.inBlock ?_ | refine K.label ?_)
            refine K.ret (fn := Try.f17) Try.func17 (fun a w hk hs => res1 Try.results17 hk rfl) (fun w hs => ?_)
            exact ⟨_, [], rfl, ⟨by simp [*], rfl⟩, hs.tail⟩
        · refine KO.skip rfl ?_
          refine KO.skip rfl ?_
          refine KO.skip rfl ?_
          refine KO.q rfl (q_pickF rfl rfl) ?_
          refine KO.q rfl (q_move rfl) ?_
          refine KO.skip rfl ?_
          refine KO.skip rfl ?_
          refine KO.skip rfl ?_
          refine KO.q rfl (q_pickF rfl rfl) ?_
          refine KO.q rfl (q_move rfl) ?_
          refine KO.skip rfl ?_
          refine KO.skip rfl ?_
          refine KO.skip rfl ?_
          refine KO.skip rfl ?_
          refine KO.q rfl (q_pickF rfl rfl) ?_
          refine KO.q rfl (q_move rfl) ?_
          refine KO.skip rfl ?_
          refine KO.skip rfl ?_
          refine KO.skip rfl ?_
          refine KO.skip rfl ?_
          refine KO.q rfl (q_pickF rfl rfl) ?_
          refine KO.q rfl (q_assign rfl) ?_
          refine KO.done ?_
          repeat (first | refine K.seq ?_ | refine K.skip ?_ | refine K.block ?_ | refine K.inBlock ?_ | refine K.label ?_)
          refine K.ret (fn := Try.f17) Try.func17 (fun a w hk hs => res1 Try.results17 hk rfl) (fun w hs => ?_)
          exact ⟨_, [], rfl, ⟨by simp [*], rfl⟩, hs.tail⟩
      · refine KO.skip rfl ?_
        refine KO.skip rfl ?_
        refine KO.skip rfl ?_
        refine KO.q rfl (q_pickF rfl rfl) ?_
        refine KO.q rfl (q_move rfl) ?_
        refine KO.skip rfl ?_
        refine KO.skip rfl ?_
        refine KO.skip rfl ?_
        refine KO.q rfl (q_pickF rfl rfl) ?_
        refine KO.q rfl (q_move rfl) ?_
        refine KO.skip rfl ?_
        refine KO.skip rfl ?_
        refine KO.skip rfl ?_
        refine KO.q rfl (q_pickF rfl rfl) ?_
        refine KO.q rfl (q_move rfl) ?_
        refine KO.skip rfl ?_
        refine KO.skip rfl ?_
        refine KO.skip rfl ?_
        refine KO.skip rfl ?_
        refine KO.q rfl (q_pickF rfl rfl) ?_
        refine KO.q rfl (q_move rfl) ?_
        refine KO.skip rfl ?_
        refine KO.skip rfl ?_
        refine KO.skip rfl ?_
        refine KO.skip rfl ?_
        refine KO.q rfl (q_pickF rfl rfl) ?_
        refine KO.q rfl (q_assign rfl) ?_
        refine KO.done ?_
        repeat (first | refine K.seq ?_ | refine K.skip ?_ | refine K.block ?_ | refine K.inBlock ?_ | refine K.label ?_)
        refine K.ret (fn := Try.f17) Try.func17 (fun a w hk hs => res1 Try.results17 hk rfl) (fun w hs => ?_)
        exact ⟨_, [], rfl, ⟨by simp [*], rfl⟩, hs.tail⟩
    · refine KO.skip rfl ?_
      refine KO.skip rfl ?_
      refine KO.skip rfl ?_
      refine KO.q rfl (q_pickF rfl rfl) ?_
      refine KO.q rfl (q_move rfl) ?_
      refine KO.skip rfl ?_
      refine KO.skip rfl ?_
      refine KO.skip rfl ?_
      refine KO.q rfl (q_pickF rfl rfl) ?_
      refine KO.q rfl (q_move rfl) ?_
      refine KO.skip rfl ?_
      refine KO.skip rfl ?_
      refine KO.skip rfl ?_
      refine KO.q rfl (q_pickF rfl rfl) ?_
      refine KO.q rfl (q_move rfl) ?_
      refine KO.skip rfl ?_
      refine KO.skip rfl ?_
      refine KO.skip rfl ?_
      refine KO.q rfl (q_pickF rfl rfl) ?_
      refine KO.q rfl (q_move rfl) ?_
      refine KO.skip rfl ?_
      refine KO.skip rfl ?_
      refine KO.skip rfl ?_
      refine KO.skip rfl ?_
      refine KO.q rfl (q_pickF rfl rfl) ?_
      refine KO.q rfl (q_move rfl) ?_
      refine KO.skip rfl ?_
      refine KO.skip rfl ?_
      refine KO.skip rfl ?_
      refine KO.skip rfl ?_
      refine KO.q rfl (q_pickF rfl rfl) ?_
      refine KO.q rfl (q_assign rfl) ?_
      refine KO.done ?_
      repeat (first | refine K.seq ?_ | refine K.skip ?_ | refine K.block ?_ | refine K.inBlock ?_ | refine K.label ?_)
      refine K.ret (fn := Try.f17) Try.func17 (fun a w hk hs => res1 Try.results17 hk rfl) (fun w hs => ?_)
      exact ⟨_, [], rfl, ⟨by simp [*], rfl⟩, hs.tail⟩
  · refine KO.skip rfl ?_
    refine KO.skip rfl ?_
    refine KO.skip rfl ?_
    refine KO.q rfl (q_pickF rfl rfl) ?_
    refine KO.q rfl (q_move rfl) ?_
    refine KO.skip rfl ?_
    refine KO.skip rfl ?_
    refine KO.skip rfl ?_
    refine KO.q rfl (q_pickF rfl rfl) ?_
    refine KO.q rfl (q_move rfl) ?_
    refine KO.skip rfl ?_
    refine KO.skip rfl ?_
    refine KO.skip rfl ?_
    refine KO.q rfl (q_pickF rfl rfl) ?_
    refine KO.q rfl (q_move rfl) ?_
    refine KO.skip rfl ?_
    refine KO.skip rfl ?_
    refine KO.skip rfl ?_
    refine KO.q rfl (q_pickF rfl rfl) ?_
    refine KO.q rfl (q_move rfl) ?_
    refine KO.skip rfl ?_
    refine KO.skip rfl ?_
    refine KO.skip rfl ?_
    refine KO.q rfl (q_pickF rfl rfl) ?_
    refine KO.q rfl (q_move rfl) ?_
    refine KO.skip rfl ?_
    refine KO.skip rfl ?_
    refine KO.skip rfl ?_
    refine KO.skip rfl ?_
    refine KO.q rfl (q_pickF rfl rfl) ?_
    refine KO.q rfl (q_move rfl) ?_
    refine KO.skip rfl ?_
    refine KO.skip rfl ?_
    refine KO.skip rfl ?_
    refine KO.skip rfl ?_
    refine KO.q rfl (q_pickF rfl rfl) ?_
    refine KO.q rfl (q_assign rfl) ?_
    refine KO.done ?_
    repeat (first | refine K.seq ?_ | refine K.skip ?_ | refine K.block ?_ | refine K.inBlock ?_ | refine K.label ?_)
    refine K.ret (fn := Try.f17) Try.func17 (fun a w hk hs => res1 Try.results17 hk rfl) (fun w hs => ?_)
    exact ⟨_, [], rfl, ⟨by simp [*], rfl⟩, hs.tail⟩
end Go.Proofs.Ytlellgnklohclaa.L
/-! Walks: the reader of package bytes. -/
namespace Go.Proofs.Ytlellgnklohclaa.L
open Go Go.Proofs
attribute [local irreducible] pv fv pt fz RowF RowO rowP old pure_
set_option maxRecDepth 100000
set_option linter.unusedSimpArgs false
set_option linter.unusedVariables false

abbrev RdL (p : Nat) (q : Option Addr) (cap : Nat) (s : Rd) : List HP := [pv p 90 [.slice q s.bs.length cap, .bool s.f], RowF Kd.u8 q s.bs]
theorem rd_fail (p : Nat) (v u : Value) : Fn Try.prog 71 [.pointer (some ⟨p, 0, none⟩)].toArray [pv p 90 [v, u]] (fun r post => r = .tuple #[] ∧ post = [pv p 90 [.slice none 0 0, .bool true]]) := by
  refine Fn.enter (N := 8) Try.func71 rfl Try.ntmps71 (by kernel_rfl) rfl (fun ρ L => ?_)
  repeat (first | refine K.seq ?_ | refine K.skip ?_ | refine K.block ?_ | refine K.inBlock ?_ | refine K.label ?_)
  refine K.region ?_
  refine KO.q rfl (q_move rfl) ?_
  refine KO.q rfl (q_move rfl) ?_
  refine KO.q rfl (q_nilCheck rfl) ?_
  refine KO.q rfl (q_field fo_90_0 rfl) ?_
  refine KO.loudN rfl (l_store1 ck_25 rfl rfl rfl (by repeat (first | exact Pick.here | apply Pick.there)) (by repeat (first | exact SetAt.here | apply SetAt.there))) ?_
  rintro _ _ ⟨rfl, rfl⟩
  refine KO.q rfl (q_nilCheck rfl) ?_
  refine KO.q rfl (q_field fo_90_1 rfl) ?_
  refine KO.loudN rfl (l_store1 ck_4 rfl rfl rfl (by repeat (first | exact Pick.here | apply Pick.there)) (by repeat (first | exact SetAt.here | apply SetAt.there))) ?_
  rintro _ _ ⟨rfl, rfl⟩
  refine KO.done ?_
  repeat (first | refine K.seq ?_ | refine K.skip ?_ | refine K.block ?_ | refine K.inBlock ?_ | refine K.label ?_)
  refine K.fin (fn := Try.f71) Try.func71 (fun a w hk hs => res0 Try.results71) (fun w hs => ?_)
  exact ⟨_, [_], rfl, ⟨rfl, rfl⟩, hs⟩
theorem rd_take_failed (p : Nat) (q : Option Addr) (cap : Nat) (s : Rd) (n : Int) (hf : s.f = true) : Fn Try.prog 66 [.pointer (some ⟨p, 0, none⟩), .int .i64 n].toArray (RdL p q cap s) (fun r post => r = .tuple #[.slice none 0 0, .bool false] ∧ post = RdL p q cap s) := by
  obtain ⟨bs, f⟩ := s
  obtain rfl : f = true := hf
  refine Fn.enter (N := 40) Try.func66 rfl Try.ntmps66 (by kernel_rfl) rfl (fun ρ L => ?_)
  repeat (first | refine K.seq ?_ | refine K.skip ?_ | refine K.block ?_ | refine K.inBlock ?_ | refine K.label ?_)
  refine K.region ?_
  refine KO.q rfl (q_assign rfl) ?_
  refine KO.q rfl (q_assign rfl) ?_
  refine KO.done ?_
  repeat (first | refine K.seq ?_ | refine K.skip ?_ | refine K.block ?_ | refine K.inBlock ?_ | refine K.label ?_)
  repeat (first | refine K.seq ?_ | refine K.skip ?_ | refine K.block ?_ | refine K.inBlock ?_ | refine K.label ?_)
  refine K.region ?_
  refine KO.q rfl (q_move rfl) ?_
  refine KO.q rfl (q_pnil Try.underlying38 rfl rfl) ?_
  refine KO.q rfl (q_move rfl) ?_
  refine KO.q rfl (q_move rfl) ?_
  refine KO.q rfl (q_nilCheck rfl) ?_
  refine KO.q rfl (q_field fo_90_1 rfl) ?_
  refine KO.q rfl (q_load1D ck_4 rfl) ?_
  refine KO.q rfl (q_pickF rfl rfl) ?_
  refine KO.done ?_
  repeat (first | refine K.seq ?_ | refine K.skip ?_ | refine K.block ?_ | refine K.inBlock ?_ | refine K.label ?_)
  refine K.yes rfl ?_
  repeat (first | refine K.seq ?_ | refine K.skip ?_ | refine K.block ?_ | refine K.inBlock ?_ | refine K.label ?_)
  refine K.region ?_
  refine KO.q rfl (q_assign rfl) ?_
  refine KO.q rfl (q_assign rfl) ?_
  refine KO.done ?_
  repeat (first | refine K.seq ?_ | refine K.skip ?_ | refine K.block ?_ | refine K.inBlock ?_ | refine K.label ?_)
  refine K.ret (fn := Try.f66) Try.func66 (fun a w hk hs => res2 Try.results66 hk rfl rfl) (fun w hs => ?_)
  exact ⟨_, _, rfl, ⟨rfl, rfl⟩, hs⟩
theorem rd_take_short (p : Nat) (q : Option Addr) (cap : Nat) (s : Rd) (n : Int) (hf : s.f = false) (hl : (s.bs.length : Int) < n) : Fn Try.prog 66 [.pointer (some ⟨p, 0, none⟩), .int .i64 n].toArray (RdL p q cap s) (fun r post => r = .tuple #[.slice none 0 0, .bool false] ∧ post = RdL p none 0 ⟨[], true⟩) := by
  obtain ⟨bs, f⟩ := s
  obtain rfl : f = false := hf
  replace hl : (bs.length : Int) < n := hl
  refine Fn.enter (N := 40) Try.func66 rfl Try.ntmps66 (by kernel_rfl) rfl (fun ρ L => ?_)
  repeat (first | refine K.seq ?_ | refine K.skip ?_ | refine K.block ?_ | refine K.inBlock ?_ | refine K.label ?_)
  refine K.region ?_
  refine KO.q rfl (q_assign rfl) ?_
  refine KO.q rfl (q_assign rfl) ?_
  refine KO.done ?_
  repeat (first | refine K.seq ?_ | refine K.skip ?_ | refine K.block ?_ | refine K.inBlock ?_ | refine K.label ?_)
  repeat (first | refine K.seq ?_ | refine K.skip ?_ | refine K.block ?_ | refine K.inBlock ?_ | refine K.label ?_)
  refine K.region ?_
  refine KO.q rfl (q_move rfl) ?_
  refine KO.q rfl (q_pnil Try.underlying38 rfl rfl) ?_
  refine KO.q rfl (q_move rfl) ?_
  refine KO.q rfl (q_move rfl) ?_
  refine KO.q rfl (q_nilCheck rfl) ?_
  refine KO.q rfl (q_field fo_90_1 rfl) ?_
  refine KO.q rfl (q_load1D ck_4 rfl) ?_
  refine KO.q rfl (q_pickF rfl rfl) ?_
  refine KO.done ?_
  repeat (first | refine K.seq ?_ | refine K.skip ?_ | refine K.block ?_ | refine K.inBlock ?_ | refine K.label ?_)
  refine K.no rfl ?_
  repeat (first | refine K.seq ?_ | refine K.skip ?_ | refine K.block ?_ | refine K.inBlock ?_ | refine K.label ?_)
  refine K.region ?_
  refine KO.q rfl (q_move rfl) ?_
  refine KO.q rfl (q_nilCheck rfl) ?_
  refine KO.q rfl (q_field fo_90_0 rfl) ?_
  refine KO.q rfl (q_load1D ck_25 rfl) ?_
  refine KO.q rfl (q_len Try.underlying25 rfl) ?_
  refine KO.q rfl (q_move rfl) ?_
  refine KO.q rfl (q_lt rfl rfl) ?_
  refine KO.done ?_
  repeat (first | refine K.seq ?_ | refine K.skip ?_ | refine K.block ?_ | refine K.inBlock ?_ | refine K.label ?_)
  refine K.dite rfl (fun _ => ?_) (fun h => absurd hl h)
  repeat (first | refine K.seq ?_ | refine K.skip ?_ | refine K.block ?_ | refine K.inBlock ?_ | refine K.label ?_)
  refine K.region ?_
  refine KO.q rfl (q_move rfl) ?_
  refine KO.loud rfl (OpL.callE rfl (rd_fail p _ _)) ?_
  rintro _ _ ⟨_, ⟨rfl, rfl⟩, rfl⟩
  refine KO.done ?_
  repeat (first | refine K.seq ?_ | refine K.skip ?_ | refine K.block ?_ | refine K.inBlock ?_ | refine K.label ?_)
  repeat (first | refine K.seq ?_ | refine K.skip ?_ | refine K.block ?_ | refine K.inBlock ?_ | refine K.label ?_)
  refine K.region ?_
  refine KO.q rfl (q_assign rfl) ?_
  refine KO.q rfl (q_assign rfl) ?_
  refine KO.done ?_
  repeat (first | refine K.seq ?_ | refine K.skip ?_ | refine K.block ?_ | refine K.inBlock ?_ | refine K.label ?_)
  refine K.ret (fn := Try.f66) Try.func66 (fun a w hk hs => res2 Try.results66 hk rfl rfl) (fun w hs => ?_)
  exact ⟨_, RdL p none 0 ⟨[], true⟩, rfl, ⟨rfl, rfl⟩, (rowF_nil (k := Kd.u8) none hs).fitD⟩
theorem rd_take_ok (p : Nat) (q : Option Addr) (cap : Nat) (s : Rd) (n : Int) (hf : s.f = false) (h0 : 0 ≤ n) (hl : n ≤ s.bs.length) (hc : s.bs.length ≤ cap) : Fn Try.prog 66 [.pointer (some ⟨p, 0, none⟩), .int .i64 n].toArray (RdL p q cap s)
    (fun r post => r = .tuple #[.slice q n.toNat cap, .bool true] ∧ post = RowF Kd.u8 q (s.bs.take n.toNat) :: RdL p (cutAddr q cap n.toNat 1) (cap - n.toNat) ⟨s.bs.drop n.toNat, false⟩) := by
  obtain ⟨bs, f⟩ := s
  obtain rfl : f = false := hf
  replace hl : n ≤ bs.length := hl
  replace hc : bs.length ≤ cap := hc
  refine Fn.enter (N := 40) Try.func66 rfl Try.ntmps66 (by kernel_rfl) rfl (fun ρ L => ?_)
  repeat (first | refine K.seq ?_ | refine K.skip ?_ | refine K.block ?_ | refine K.inBlock ?_ | refine K.label ?_)
  refine K.region ?_
  refine KO.q rfl (q_assign rfl) ?_
  refine KO.q rfl (q_assign rfl) ?_
  refine KO.done ?_
  repeat (first | refine K.seq ?_ | refine K.skip ?_ | refine K.block ?_ | refine K.inBlock ?_ | refine K.label ?_)
  repeat (first | refine K.seq ?_ | refine K.skip ?_ | refine K.block ?_ | refine K.inBlock ?_ | refine K.label ?_)
  refine K.region ?_
  refine KO.q rfl (q_move rfl) ?_
  refine KO.q rfl (q_pnil Try.underlying38 rfl rfl) ?_
  refine KO.q rfl (q_move rfl) ?_
  refine KO.q rfl (q_move rfl) ?_
  refine KO.q rfl (q_nilCheck rfl) ?_
  refine KO.q rfl (q_field fo_90_1 rfl) ?_
  refine KO.q rfl (q_load1D ck_4 rfl) ?_
  refine KO.q rfl (q_pickF rfl rfl) ?_
  refine KO.done ?_
  repeat (first | refine K.seq ?_ | refine K.skip ?_ | refine K.block ?_ | refine K.inBlock ?_ | refine K.label ?_)
  refine K.no rfl ?_
  repeat (first | refine K.seq ?_ | refine K.skip ?_ | refine K.block ?_ | refine K.inBlock ?_ | refine K.label ?_)
  refine K.region ?_
  refine KO.q rfl (q_move rfl) ?_
  refine KO.q rfl (q_nilCheck rfl) ?_
  refine KO.q rfl (q_field fo_90_0 rfl) ?_
  refine KO.q rfl (q_load1D ck_25 rfl) ?_
  refine KO.q rfl (q_len Try.underlying25 rfl) ?_
  refine KO.q rfl (q_move rfl) ?_
  refine KO.q rfl (q_lt rfl rfl) ?_
  refine KO.done ?_
  repeat (first | refine K.seq ?_ | refine K.skip ?_ | refine K.block ?_ | refine K.inBlock ?_ | refine K.label ?_)
  refine K.dite rfl (fun h => absurd h (by show ¬ (bs.length : Int) < n; omega)) (fun _ => ?_)
  repeat (first | refine K.seq ?_ | refine K.skip ?_ | refine K.block ?_ | refine K.inBlock ?_ | refine K.label ?_)
  refine K.st (fun w h => rowF_take n.toNat (List.Mem.tail _ (List.Mem.head _)) h) ?_
  refine K.st (fun w h => rowF_cut (cap := cap) n.toNat hc (List.Mem.tail _ (List.Mem.tail _ (List.Mem.head _))) h) ?_
  repeat (first | refine K.seq ?_ | refine K.skip ?_ | refine K.block ?_ | refine K.inBlock ?_ | refine K.label ?_)
  refine K.region ?_
  refine KO.q rfl (q_move rfl) ?_
  refine KO.q rfl (q_nilCheck rfl) ?_
  refine KO.q rfl (q_field fo_90_0 rfl) ?_
  refine KO.q rfl (q_load1D ck_25 rfl) ?_
  refine KO.q rfl (q_move rfl) ?_
  refine KO.q rfl (q_cutH se_25 rfl rfl (by first | omega | (simp; omega)) (by first | omega | (simp; omega))) ?_
  refine KO.q rfl (q_assign rfl) ?_
  refine KO.done ?_
  repeat (first | refine K.seq ?_ | refine K.skip ?_ | refine K.block ?_ | refine K.inBlock ?_ | refine K.label ?_)
  repeat (first | refine K.seq ?_ | refine K.skip ?_ | refine K.block ?_ | refine K.inBlock ?_ | refine K.label ?_)
  refine K.region ?_
  refine KO.q rfl (q_move rfl) ?_
  refine KO.q rfl (q_move rfl) ?_
  refine KO.q rfl (q_nilCheck rfl) ?_
  refine KO.q rfl (q_field fo_90_0 rfl) ?_
  refine KO.q rfl (q_load1D ck_25 rfl) ?_
  refine KO.q rfl (q_move rfl) ?_
  refine KO.q rfl (q_cutL se_25 rfl rfl (by first | omega | (simp; omega)) (by first | omega | (simp; omega)) (by first | omega | (simp; omega))) ?_
  refine KO.q rfl (q_nilCheck rfl) ?_
  refine KO.q rfl (q_field fo_90_0 rfl) ?_
  refine KO.loudN rfl (l_store1 ck_25 rfl rfl rfl (by repeat (first | exact Pick.here | apply Pick.there)) (by repeat (first | exact SetAt.here | apply SetAt.there))) ?_
  rintro _ _ ⟨rfl, rfl⟩
  refine KO.done ?_
  repeat (first | refine K.seq ?_ | refine K.skip ?_ | refine K.block ?_ | refine K.inBlock ?_ | refine K.label ?_)
  repeat (first | refine K.seq ?_ | refine K.skip ?_ | refine K.block ?_ | refine K.inBlock ?_ | refine K.label ?_)
  refine K.region ?_
  refine KO.q rfl (q_move rfl) ?_
  refine KO.q rfl (q_assign rfl) ?_
  refine KO.q rfl (q_assign rfl) ?_
  refine KO.done ?_
  repeat (first | refine K.seq ?_ | refine K.skip ?_ | refine K.block ?_ | refine K.inBlock ?_ | refine K.label ?_)
  refine K.ret (fn := Try.f66) Try.func66 (fun a w hk hs => res2 Try.results66 hk rfl rfl) (fun w hs => ?_)
  have e : (Rd.mk bs false).bs.length - n.toNat = (bs.drop n.toNat).length := by simp
  rw [e] at hs
  refine ⟨_, RowF Kd.u8 q (bs.take n.toNat) :: RdL p (cutAddr q cap n.toNat 1) (cap - n.toNat) ⟨bs.drop n.toNat, false⟩, rfl, ⟨rfl, rfl⟩, ?_⟩
  exact hs.fitD
end Go.Proofs.Ytlellgnklohclaa.L
/-! Walks: the reader of package bytes, continued. -/
namespace Go.Proofs.Ytlellgnklohclaa.L
open Go Go.Proofs
attribute [local irreducible] pv fv pt fz RowF RowO rowP old pure_
set_option maxRecDepth 100000
set_option linter.unusedSimpArgs false
set_option linter.unusedVariables false

theorem Rd.take_failed {s : Rd} {n : Nat} (h : s.f = true) : s.take n = (none, s) := by simp [Rd.take, h]
theorem Rd.take_short {s : Rd} {n : Nat} (h : s.f = false) (hl : s.bs.length < n) : s.take n = (none, ⟨[], true⟩) := by simp [Rd.take, h, hl]
theorem Rd.take_ok {s : Rd} {n : Nat} (h : s.f = false) (hl : n ≤ s.bs.length) : s.take n = (some (s.bs.take n), ⟨s.bs.drop n, false⟩) := by
  have : ¬ s.bs.length < n := by omega
  simp [Rd.take, h, this]
theorem rd_number (p : Nat) (q : Option Addr) (cap : Nat) (s : Rd) (n : Int) (h0 : 0 ≤ n) (h8 : n ≤ 8) (hc : s.bs.length ≤ cap) : Fn Try.prog 67 [.pointer (some ⟨p, 0, none⟩), .int .i64 n].toArray (RdL p q cap s)
    (fun r post => ∃ q' cap', r = .int .u64 (s.num n.toNat).1 ∧ post = RdL p q' cap' (s.num n.toNat).2 ∧ (s.num n.toNat).2.bs.length ≤ cap') := by
  by_cases hf : s.f = true
  · refine Fn.enter (N := 34) Try.func67 rfl Try.ntmps67 (by kernel_rfl) rfl (fun ρ L => ?_)
    repeat (first | refine K.seq ?_ | refine K.skip ?_ | refine K.block ?_ | refine K.inBlock ?_ | refine K.label ?_)
    refine K.region ?_
    refine KO.q rfl (q_assign rfl) ?_
    refine KO.done ?_
    repeat (first | refine K.seq ?_ | refine K.skip ?_ | refine K.block ?_ | refine K.inBlock ?_ | refine K.label ?_)
    repeat (first | refine K.seq ?_ | refine K.skip ?_ | refine K.block ?_ | refine K.inBlock ?_ | refine K.label ?_)
    refine K.region ?_
    refine KO.q rfl (q_move rfl) ?_
    refine KO.q rfl (q_move rfl) ?_
    refine KO.loud rfl (OpL.callE rfl (rd_take_failed p q cap s n hf)) ?_
    rintro _ _ ⟨_, ⟨rfl, rfl⟩, rfl⟩
    refine KO.q rfl (q_move rfl) ?_
    refine KO.q rfl (q_extract rfl rfl) ?_
    refine KO.q rfl (q_extract rfl rfl) ?_
    refine KO.q rfl (q_assign rfl) ?_
    refine KO.q rfl (q_assign rfl) ?_
    refine KO.done ?_
    repeat (first | refine K.seq ?_ | refine K.skip ?_ | refine K.block ?_ | refine K.inBlock ?_ | refine K.label ?_)
    repeat (first | refine K.seq ?_ | refine K.skip ?_ | refine K.block ?_ | refine K.inBlock ?_ | refine K.label ?_)
    refine K.region ?_
    refine KO.q rfl (q_move rfl) ?_
    refine KO.q rfl (q_not rfl) ?_
    refine KO.done ?_
    repeat (first | refine K.seq ?_ | refine K.skip ?_ | refine K.block ?_ | refine K.inBlock ?_ | refine K.label ?_)
    refine K.yes rfl ?_
    repeat (first | refine K.seq ?_ | refine K.skip ?_ | refine K.block ?_ | refine K.inBlock ?_ | refine K.label ?_)
    refine K.region ?_
    refine KO.q rfl (q_assign rfl) ?_
    refine KO.done ?_
    repeat (first | refine K.seq ?_ | refine K.skip ?_ | refine K.block ?_ | refine K.inBlock ?_ | refine K.label ?_)
    refine K.ret (fn := Try.f67) Try.func67 (fun a w hk hs => res1 Try.results67 hk rfl) (fun w hs => ?_)
    have e : s.num n.toNat = (0, s) := by simp [Rd.num, Rd.take_failed hf]
    exact ⟨_, RdL p q cap s, rfl, ⟨q, cap, by rw [e], by rw [e], by rw [e]; exact hc⟩, hs.fitD⟩
  · replace hf : s.f = false := by simpa using hf
    by_cases hl : (s.bs.length : Int) < n
    · refine Fn.enter (N := 34) Try.func67 rfl Try.ntmps67 (by kernel_rfl) rfl (fun ρ L => ?_)
      repeat (first | refine K.seq ?_ | refine K.skip ?_ | refine K.block ?_ | refine K.inBlock ?_ | refine K.label ?_)
      refine K.region ?_
      refine KO.q rfl (q_assign rfl) ?_
      refine KO.done ?_
      repeat (first | refine K.seq ?_ | refine K.skip ?_ | refine K.block ?_ | refine K.inBlock ?_ | refine K.label ?_)
      repeat (first | refine K.seq ?_ | refine K.skip ?_ | refine K.block ?_ | refine K.inBlock ?_ | refine K.label ?_)
      refine K.region ?_
      refine KO.q rfl (q_move rfl) ?_
      refine KO.q rfl (q_move rfl) ?_
      refine KO.loud rfl (OpL.callE rfl (rd_take_short p q cap s n hf hl)) ?_
      rintro _ _ ⟨_, ⟨rfl, rfl⟩, rfl⟩
      refine KO.q rfl (q_move rfl) ?_
      refine KO.q rfl (q_extract rfl rfl) ?_
      refine KO.q rfl (q_extract rfl rfl) ?_
      refine KO.q rfl (q_assign rfl) ?_
      refine KO.q rfl (q_assign rfl) ?_
      refine KO.done ?_
      repeat (first | refine K.seq ?_ | refine K.skip ?_ | refine K.block ?_ | refine K.inBlock ?_ | refine K.label ?_)
      repeat (first | refine K.seq ?_ | refine K.skip ?_ | refine K.block ?_ | refine K.inBlock ?_ | refine K.label ?_)
      refine K.region ?_
      refine KO.q rfl (q_move rfl) ?_
      refine KO.q rfl (q_not rfl) ?_
      refine KO.done ?_
      repeat (first | refine K.seq ?_ | refine K.skip ?_ | refine K.block ?_ | refine K.inBlock ?_ | refine K.label ?_)
      refine K.yes rfl ?_
      repeat (first | refine K.seq ?_ | refine K.skip ?_ | refine K.block ?_ | refine K.inBlock ?_ | refine K.label ?_)
      refine K.region ?_
      refine KO.q rfl (q_assign rfl) ?_
      refine KO.done ?_
      repeat (first | refine K.seq ?_ | refine K.skip ?_ | refine K.block ?_ | refine K.inBlock ?_ | refine K.label ?_)
      refine K.ret (fn := Try.f67) Try.func67 (fun a w hk hs => res1 Try.results67 hk rfl) (fun w hs => ?_)
      have e : s.num n.toNat = (0, ⟨[], true⟩) := by simp [Rd.num, Rd.take_short hf (show s.bs.length < n.toNat by omega)]
      exact ⟨_, RdL p none 0 ⟨[], true⟩, rfl, ⟨none, 0, by rw [e], by rw [e], by rw [e]; exact Nat.le_refl _⟩, hs.fitD⟩
    · refine Fn.enter (N := 34) Try.func67 rfl Try.ntmps67 (by kernel_rfl) rfl (fun ρ L => ?_)
      repeat (first | refine K.seq ?_ | refine K.skip ?_ | refine K.block ?_ | refine K.inBlock ?_ | refine K.label ?_)
      refine K.region ?_
      refine KO.q rfl (q_assign rfl) ?_
      refine KO.done ?_
      repeat (first | refine K.seq ?_ | refine K.skip ?_ | refine K.block ?_ | refine K.inBlock ?_ | refine K.label ?_)
      repeat (first | refine K.seq ?_ | refine K.skip ?_ | refine K.block ?_ | refine K.inBlock ?_ | refine K.label ?_)
      refine K.region ?_
      refine KO.q rfl (q_move rfl) ?_
      refine KO.q rfl (q_move rfl) ?_
      refine KO.loud rfl (OpL.callE rfl (rd_take_ok p q cap s n hf h0 (by omega) hc)) ?_
      rintro _ _ ⟨_, ⟨rfl, rfl⟩, rfl⟩
      refine KO.q rfl (q_move rfl) ?_
      refine KO.q rfl (q_extract rfl rfl) ?_
      refine KO.q rfl (q_extract rfl rfl) ?_
      refine KO.q rfl (q_assign rfl) ?_
      refine KO.q rfl (q_assign rfl) ?_
      refine KO.done ?_
      repeat (first | refine K.seq ?_ | refine K.skip ?_ | refine K.block ?_ | refine K.inBlock ?_ | refine K.label ?_)
      repeat (first | refine K.seq ?_ | refine K.skip ?_ | refine K.block ?_ | refine K.inBlock ?_ | refine K.label ?_)
      refine K.region ?_
      refine KO.q rfl (q_move rfl) ?_
      refine KO.q rfl (q_not rfl) ?_
      refine KO.done ?_
      repeat (first | refine K.seq ?_ | refine K.skip ?_ | refine K.block ?_ | refine K.inBlock ?_ | refine K.label ?_)
      refine K.no rfl ?_
      repeat (first | refine K.seq ?_ | refine K.skip ?_ | refine K.block ?_ | refine K.inBlock ?_ | refine K.label ?_)
      refine K.region ?_
      refine KO.q rfl (q_assign rfl) ?_
      refine KO.done ?_
      repeat (first | refine K.seq ?_ | refine K.skip ?_ | refine K.block ?_ | refine K.inBlock ?_ | refine K.label ?_)
      repeat (first | refine K.seq ?_ | refine K.skip ?_ | refine K.block ?_ | refine K.inBlock ?_ | refine K.label ?_)
      refine K.region ?_
      refine KO.q rfl (q_move rfl) ?_
      refine KO.q rfl (q_len Try.underlying25 rfl) ?_
      refine KO.q rfl (q_move rfl) ?_
      refine KO.done ?_
      repeat (first | refine K.seq ?_ | refine K.skip ?_ | refine K.block ?_ | refine K.inBlock ?_ | refine K.label ?_)
      have hlen : (s.bs.take n.toNat).length = n.toNat := by rw [List.length_take]; omega
      generalize hT : s.bs.take n.toNat = T at hlen ⊢
      refine K.rloop (ι := { i : Nat // i ≤ n.toNat }) (fun i => [(20, .int .i64 (i.1 : Int)), (7, .int .u64 (ofLe (T.take i.1))), (18, .slice q n.toNat cap), (19, .int .i64 (n.toNat : Int))]) (fun i => n.toNat - i.1) ⟨0, Nat.zero_le _⟩ (by repeat (first | exact Env.sub_nil _ | refine Env.sub_cons rfl ?_)) (fun i ih => ?_)
      obtain ⟨i, hi⟩ := i
      repeat (first | refine K.seq ?_ | refine K.skip ?_ | refine K.block ?_ | refine K.inBlock ?_ | refine K.label ?_)
      refine K.region ?_
      refine KO.q rfl (q_lt rfl rfl) ?_
      refine KO.done ?_
      repeat (first | refine K.seq ?_ | refine K.skip ?_ | refine K.block ?_ | refine K.inBlock ?_ | refine K.label ?_)
      refine K.dite rfl (fun h => ?_) (fun h => ?_)
      · repeat (first | refine K.seq ?_ | refine K.skip ?_ | refine K.block ?_ | refine K.inBlock ?_ | refine K.label ?_)
        replace h : (i : Int) < (n.toNat : Int) := h
        have hi' : i < n.toNat := by omega
        obtain ⟨c, hx⟩ : ∃ c, T[i]? = some c := ⟨T[i]'(by omega), List.getElem?_eq_getElem _⟩
        have hb := c.toNat_lt
        refine K.fact (rowF_addr (List.Mem.head _) (by intro e; rw [e] at hx; simp at hx)) (fun hq => ?_)
        obtain ⟨bq, oq, rfl⟩ := hq
        repeat (first | refine K.seq ?_ | refine K.skip ?_ | refine K.block ?_ | refine K.inBlock ?_ | refine K.label ?_)
        refine K.region ?_
        refine KO.q rfl (q_move rfl) ?_
        refine KO.q rfl (q_index se_25 rfl rfl (by first | omega | (simp; omega)) (by first | omega | (simp; omega))) ?_
        refine KO.q rfl (q_load1D ck_5 rfl) ?_
        refine KO.q rfl (q_assign rfl) ?_
        refine KO.q rfl (q_assign rfl) ?_
        refine KO.done ?_
        repeat (first | refine K.seq ?_ | refine K.skip ?_ | refine K.block ?_ | refine K.inBlock ?_ | refine K.label ?_)
        repeat (first | refine K.seq ?_ | refine K.skip ?_ | refine K.block ?_ | refine K.inBlock ?_ | refine K.label ?_)
        refine K.region ?_
        refine KO.q rfl (q_move rfl) ?_
        refine KO.q rfl (q_move rfl) ?_
        refine KO.q rfl (q_conv Try.underlying87 (by rw [Try.underlying5]; rfl) rfl (by first | rfl | exact wrap_i64 (by omega) (by omega) | exact wrap_u64 (by omega) (by omega) | exact wrap_u8 (by omega) (by omega))) ?_
        refine KO.q rfl (q_move rfl) ?_
        refine KO.q rfl (q_mul rfl rfl (by first | omega | (simp; omega)) (by first | omega | (simp; omega))) ?_
        refine KO.q rfl (q_shl rfl rfl (by first | omega | (simp; omega))) ?_
        refine KO.q rfl (q_or rfl rfl) ?_
        refine KO.q rfl (q_assign rfl) ?_
        refine KO.done ?_
        repeat (first | refine K.seq ?_ | refine K.skip ?_ | refine K.block ?_ | refine K.inBlock ?_ | refine K.label ?_)
        repeat (first | refine K.seq ?_ | refine K.skip ?_ | refine K.block ?_ | refine K.inBlock ?_ | refine K.label ?_)
        refine K.region ?_
        refine KO.q rfl (q_add rfl rfl (by first | omega | (simp; omega)) (by first | omega | (simp; omega))) ?_
        refine KO.q rfl (q_move rfl) ?_
        refine KO.done ?_
        repeat (first | refine K.seq ?_ | refine K.skip ?_ | refine K.block ?_ | refine K.inBlock ?_ | refine K.label ?_)
        have hlt : ofLe (T.take i) < 256 ^ i := by
          have := ofLe_lt (T.take i)
          rwa [List.length_take, Nat.min_eq_left (by omega)] at this
        rw [or_shl (ofLe (T.take i)) c i (by omega) (ofLe_nonneg _) hlt]
        have hs' : ofLe (T.take i) + (c.toNat : Int) * 256 ^ i = ofLe (T.take (i + 1)) := by
          rw [List.take_add_one, hx, Option.toList_some, ofLe_snoc, List.length_take, Nat.min_eq_left (by omega)]
        rw [hs']
        exact K.subE (by repeat (first | exact Env.sub_nil _ | refine Env.sub_cons rfl ?_)) (ih ⟨i + 1, by omega⟩ (by show n.toNat - (i + 1) < n.toNat - i; omega))
      · replace h : ¬ (i : Int) < (n.toNat : Int) := h
        have hi' : i = n.toNat := by omega
        subst hi'
        refine K.exit rfl ?_
        repeat (first | refine K.seq ?_ | refine K.skip ?_ | refine K.block ?_ | refine K.inBlock ?_ | refine K.label ?_)
        refine K.region ?_
        refine KO.q rfl (q_move rfl) ?_
        refine KO.q rfl (q_assign rfl) ?_
        refine KO.done ?_
        repeat (first | refine K.seq ?_ | refine K.skip ?_ | refine K.block ?_ | refine K.inBlock ?_ | refine K.label ?_)
        refine K.ret (fn := Try.f67) Try.func67 (fun a w hk hs => res1 Try.results67 hk rfl) (fun w hs => ?_)
        have e : s.num n.toNat = (ofLe T, ⟨s.bs.drop n.toNat, false⟩) := by
          simp [Rd.num, Rd.take_ok hf (show n.toNat ≤ s.bs.length by omega), hT]
        have e2 : T.take n.toNat = T := List.take_of_length_le (by omega)
        exact ⟨_, RdL p (cutAddr q cap n.toNat 1) (cap - n.toNat) ⟨s.bs.drop n.toNat, false⟩, rfl, ⟨_, _, by rw [e, e2], by rw [e], by rw [e]; simp; omega⟩, hs.fitD⟩
end Go.Proofs.Ytlellgnklohclaa.L
/-! Walks: the reader of package bytes: Int, Text, Flag, Done, NewReader. -/
namespace Go.Proofs.Ytlellgnklohclaa.L
open Go Go.Proofs
attribute [local irreducible] pv fv pt fz RowF RowO rowP old pure_
set_option maxRecDepth 100000
set_option linter.unusedSimpArgs false
set_option linter.unusedVariables false

theorem Rd.num_ge (s : Rd) (n : Nat) : 0 ≤ (s.num n).1 := by
  unfold Rd.num
  split
  · exact Int.le_refl _
  · exact ofLe_nonneg _
theorem Rd.num_lt (s : Rd) (n : Nat) : (s.num n).1 < 256 ^ n := by
  unfold Rd.num
  have hp : (0 : Int) < 256 ^ n := Int.pow_pos (by decide)
  split
  · exact hp
  · rename_i l s' h
    have hl : l.length = n := by
      unfold Rd.take at h
      split at h
      · cases h
      · split at h
        · cases h
        · simp at h; rw [← h.1, List.length_take]; omega
    have := ofLe_lt l
    rwa [hl] at this
theorem wrap_i64_i64 (n : Int) : IntKind.i64.wrap n = i64 n := IntKind.wrap_i64 n
theorem rd_Int (p : Nat) (q : Option Addr) (cap : Nat) (s : Rd) (hc : s.bs.length ≤ cap) : Fn Try.prog 29 [.pointer (some ⟨p, 0, none⟩)].toArray (RdL p q cap s)
    (fun r post => ∃ q' cap', r = .int .i64 s.int.1 ∧ post = RdL p q' cap' s.int.2 ∧ s.int.2.bs.length ≤ cap') := by
  refine Fn.enter (N := 6) Try.func29 rfl Try.ntmps29 (by kernel_rfl) rfl (fun ρ L => ?_)
  repeat (first | refine K.seq ?_ | refine K.skip ?_ | refine K.block ?_ | refine K.inBlock ?_ | refine K.label ?_)
  refine K.region ?_
  refine KO.q rfl (q_assign rfl) ?_
  refine KO.done ?_
  repeat (first | refine K.seq ?_ | refine K.skip ?_ | refine K.block ?_ | refine K.inBlock ?_ | refine K.label ?_)
  repeat (first | refine K.seq ?_ | refine K.skip ?_ | refine K.block ?_ | refine K.inBlock ?_ | refine K.label ?_)
  refine K.region ?_
  refine KO.q rfl (q_move rfl) ?_
  refine KO.loud rfl (OpL.callE rfl (rd_number p q cap s 8 (by decide) (by decide) hc)) ?_
  rintro _ _ ⟨_, ⟨q', cap', rfl, rfl, hc'⟩, rfl⟩
  refine KO.q rfl (q_convw Try.underlying3 (by rw [Try.underlying87]; rfl) rfl) ?_
  refine KO.q rfl (q_assign rfl) ?_
  refine KO.done ?_
  repeat (first | refine K.seq ?_ | refine K.skip ?_ | refine K.block ?_ | refine K.inBlock ?_ | refine K.label ?_)
  refine K.ret (fn := Try.f29) Try.func29 (fun a w hk hs => res1 Try.results29 hk rfl) (fun w hs => ?_)
  rw [wrap_i64_i64]
  exact ⟨_, RdL p q' cap' s.int.2, rfl, ⟨q', cap', rfl, rfl, hc'⟩, hs.fitD⟩
theorem rd_Text (p : Nat) (q : Option Addr) (cap : Nat) (s : Rd) (hc : s.bs.length ≤ cap) : Fn Try.prog 28 [.pointer (some ⟨p, 0, none⟩)].toArray (RdL p q cap s)
    (fun r post => ∃ q' cap', r = .string s.text.1 ∧ post = RdL p q' cap' s.text.2 ∧ s.text.2.bs.length ≤ cap') := by
  have g0 := s.num_ge 2
  have g1 := s.num_lt 2
  refine Fn.enter (N := 17) Try.func28 rfl Try.ntmps28 (by kernel_rfl) rfl (fun ρ L => ?_)
  repeat (first | refine K.seq ?_ | refine K.skip ?_ | refine K.block ?_ | refine K.inBlock ?_ | refine K.label ?_)
  refine K.region ?_
  refine KO.q rfl (q_assign rfl) ?_
  refine KO.done ?_
  repeat (first | refine K.seq ?_ | refine K.skip ?_ | refine K.block ?_ | refine K.inBlock ?_ | refine K.label ?_)
  repeat (first | refine K.seq ?_ | refine K.skip ?_ | refine K.block ?_ | refine K.inBlock ?_ | refine K.label ?_)
  refine K.region ?_
  refine KO.q rfl (q_move rfl) ?_
  refine KO.q rfl (q_move rfl) ?_
  refine KO.loud rfl (OpL.callE rfl (rd_number p q cap s 2 (by decide) (by decide) hc)) ?_
  rintro _ _ ⟨_, ⟨q', cap', rfl, rfl, hc'⟩, rfl⟩
  have e2 : s.num (2 : Int).toNat = s.num 2 := rfl
  rw [e2] at hc' ⊢
  generalize hN : (s.num 2).1 = N at g0 g1 ⊢
  generalize hS : (s.num 2).2 = S at hc' ⊢
  have g2 : N < 65536 := g1
  clear g1
  refine KO.q rfl (q_conv Try.underlying3 (by rw [Try.underlying87]; rfl) rfl (by first | rfl | exact wrap_i64 (by omega) (by omega) | exact wrap_u64 (by omega) (by omega) | exact wrap_u8 (by omega) (by omega))) ?_
  by_cases hf : S.f = true
  · have e : s.text = (⟨#[]⟩, S) := by simp [Rd.text, hN, hS, Rd.take_failed hf]
    refine KO.loud rfl (OpL.callE rfl (rd_take_failed p q' cap' S N hf)) ?_
    rintro _ _ ⟨_, ⟨rfl, rfl⟩, rfl⟩
    refine KO.q rfl (q_move rfl) ?_
    refine KO.q rfl (q_extract rfl rfl) ?_
    refine KO.q rfl (q_extract rfl rfl) ?_
    refine KO.q rfl (q_assign rfl) ?_
    refine KO.q rfl (q_assign rfl) ?_
    refine KO.done ?_
    repeat (first | refine K.seq ?_ | refine K.skip ?_ | refine K.block ?_ | refine K.inBlock ?_ | refine K.label ?_)
    repeat (first | refine K.seq ?_ | refine K.skip ?_ | refine K.block ?_ | refine K.inBlock ?_ | refine K.label ?_)
    refine K.region ?_
    refine KO.q rfl (q_move rfl) ?_
    refine KO.q rfl (q_not rfl) ?_
    refine KO.done ?_
    repeat (first | refine K.seq ?_ | refine K.skip ?_ | refine K.block ?_ | refine K.inBlock ?_ | refine K.label ?_)
    refine K.yes rfl ?_
    repeat (first | refine K.seq ?_ | refine K.skip ?_ | refine K.block ?_ | refine K.inBlock ?_ | refine K.label ?_)
    refine K.region ?_
    refine KO.q rfl (q_assign rfl) ?_
    refine KO.done ?_
    repeat (first | refine K.seq ?_ | refine K.skip ?_ | refine K.block ?_ | refine K.inBlock ?_ | refine K.label ?_)
    refine K.ret (fn := Try.f28) Try.func28 (fun a w hk hs => res1 Try.results28 hk rfl) (fun w hs => ?_)
    exact ⟨_, RdL p q' cap' S, rfl, ⟨q', cap', by rw [e], by rw [e], by rw [e]; exact hc'⟩, hs.fitD⟩
  · replace hf : S.f = false := by simpa using hf
    by_cases hl : (S.bs.length : Int) < N
    · have e : s.text = (⟨#[]⟩, ⟨[], true⟩) := by simp [Rd.text, hN, hS, Rd.take_short hf (show S.bs.length < N.toNat by omega)]
      refine KO.loud rfl (OpL.callE rfl (rd_take_short p q' cap' S N hf hl)) ?_
      rintro _ _ ⟨_, ⟨rfl, rfl⟩, rfl⟩
      refine KO.q rfl (q_move rfl) ?_
      refine KO.q rfl (q_extract rfl rfl) ?_
      refine KO.q rfl (q_extract rfl rfl) ?_
      refine KO.q rfl (q_assign rfl) ?_
      refine KO.q rfl (q_assign rfl) ?_
      refine KO.done ?_
      repeat (first | refine K.seq ?_ | refine K.skip ?_ | refine K.block ?_ | refine K.inBlock ?_ | refine K.label ?_)
      repeat (first | refine K.seq ?_ | refine K.skip ?_ | refine K.block ?_ | refine K.inBlock ?_ | refine K.label ?_)
      refine K.region ?_
      refine KO.q rfl (q_move rfl) ?_
      refine KO.q rfl (q_not rfl) ?_
      refine KO.done ?_
      repeat (first | refine K.seq ?_ | refine K.skip ?_ | refine K.block ?_ | refine K.inBlock ?_ | refine K.label ?_)
      refine K.yes rfl ?_
      repeat (first | refine K.seq ?_ | refine K.skip ?_ | refine K.block ?_ | refine K.inBlock ?_ | refine K.label ?_)
      refine K.region ?_
      refine KO.q rfl (q_assign rfl) ?_
      refine KO.done ?_
      repeat (first | refine K.seq ?_ | refine K.skip ?_ | refine K.block ?_ | refine K.inBlock ?_ | refine K.label ?_)
      refine K.ret (fn := Try.f28) Try.func28 (fun a w hk hs => res1 Try.results28 hk rfl) (fun w hs => ?_)
      exact ⟨_, RdL p none 0 ⟨[], true⟩, rfl, ⟨none, 0, by rw [e], by rw [e], by rw [e]; exact Nat.le_refl _⟩, hs.fitD⟩
    · have e : s.text = (⟨(S.bs.take N.toNat).toArray⟩, ⟨S.bs.drop N.toNat, false⟩) := by simp [Rd.text, hN, hS, Rd.take_ok hf (show N.toNat ≤ S.bs.length by omega)]
      have hlen : N.toNat = (S.bs.take N.toNat).length := by rw [List.length_take]; omega
      refine KO.loud rfl (OpL.callE rfl (rd_take_ok p q' cap' S N hf g0 (by omega) hc')) ?_
      rintro _ _ ⟨_, ⟨rfl, rfl⟩, rfl⟩
      refine KO.q rfl (q_move rfl) ?_
      refine KO.q rfl (q_extract rfl rfl) ?_
      refine KO.q rfl (q_extract rfl rfl) ?_
      refine KO.q rfl (q_assign rfl) ?_
      refine KO.q rfl (q_assign rfl) ?_
      refine KO.done ?_
      repeat (first | refine K.seq ?_ | refine K.skip ?_ | refine K.block ?_ | refine K.inBlock ?_ | refine K.label ?_)
      repeat (first | refine K.seq ?_ | refine K.skip ?_ | refine K.block ?_ | refine K.inBlock ?_ | refine K.label ?_)
      refine K.region ?_
      refine KO.q rfl (q_move rfl) ?_
      refine KO.q rfl (q_not rfl) ?_
      refine KO.done ?_
      repeat (first | refine K.seq ?_ | refine K.skip ?_ | refine K.block ?_ | refine K.inBlock ?_ | refine K.label ?_)
      refine K.no rfl ?_
      repeat (first | refine K.seq ?_ | refine K.skip ?_ | refine K.block ?_ | refine K.inBlock ?_ | refine K.label ?_)
      refine K.region ?_
      refine KO.q rfl (q_move rfl) ?_
      refine KO.q rfl (q_bstr Try.underlying25 Try.underlying5 Try.underlying9 rfl isF (List.Mem.head _) hlen) ?_
      refine KO.q rfl (q_assign rfl) ?_
      refine KO.done ?_
      repeat (first | refine K.seq ?_ | refine K.skip ?_ | refine K.block ?_ | refine K.inBlock ?_ | refine K.label ?_)
      refine K.ret (fn := Try.f28) Try.func28 (fun a w hk hs => res1 Try.results28 hk rfl) (fun w hs => ?_)
      exact ⟨_, RdL p (cutAddr q' cap' N.toNat 1) (cap' - N.toNat) ⟨S.bs.drop N.toNat, false⟩, rfl, ⟨_, _, by rw [e], by rw [e], by rw [e]; simp; omega⟩, hs.fitD⟩
theorem rd_Flag (p : Nat) (q : Option Addr) (cap : Nat) (s : Rd) (hc : s.bs.length ≤ cap) : Fn Try.prog 34 [.pointer (some ⟨p, 0, none⟩)].toArray (RdL p q cap s)
    (fun r post => ∃ q' cap', r = .bool s.flag.1 ∧ post = RdL p q' cap' s.flag.2 ∧ s.flag.2.bs.length ≤ cap') := by
  by_cases hf : s.f = true
  · have e : s.flag = (false, s) := by simp [Rd.flag, Rd.take_failed hf]
    refine Fn.enter (N := 22) Try.func34 rfl Try.ntmps34 (by kernel_rfl) rfl (fun ρ L => ?_)
    repeat (first | refine K.seq ?_ | refine K.skip ?_ | refine K.block ?_ | refine K.inBlock ?_ | refine K.label ?_)
    refine K.region ?_
    refine KO.q rfl (q_assign rfl) ?_
    refine KO.done ?_
    repeat (first | refine K.seq ?_ | refine K.skip ?_ | refine K.block ?_ | refine K.inBlock ?_ | refine K.label ?_)
    repeat (first | refine K.seq ?_ | refine K.skip ?_ | refine K.block ?_ | refine K.inBlock ?_ | refine K.label ?_)
    refine K.region ?_
    refine KO.q rfl (q_move rfl) ?_
    refine KO.loud rfl (OpL.callE rfl (rd_take_failed p q cap s 1 hf)) ?_
    rintro _ _ ⟨_, ⟨rfl, rfl⟩, rfl⟩
    refine KO.q rfl (q_move rfl) ?_
    refine KO.q rfl (q_extract rfl rfl) ?_
    refine KO.q rfl (q_extract rfl rfl) ?_
    refine KO.q rfl (q_assign rfl) ?_
    refine KO.q rfl (q_assign rfl) ?_
    refine KO.done ?_
    repeat (first | refine K.seq ?_ | refine K.skip ?_ | refine K.block ?_ | refine K.inBlock ?_ | refine K.label ?_)
    repeat (first | refine K.seq ?_ | refine K.skip ?_ | refine K.block ?_ | refine K.inBlock ?_ | refine K.label ?_)
    refine K.region ?_
    refine KO.q rfl (q_move rfl) ?_
    refine KO.q rfl (q_not rfl) ?_
    refine KO.done ?_
    repeat (first | refine K.seq ?_ | refine K.skip ?_ | refine K.block ?_ | refine K.inBlock ?_ | refine K.label ?_)
    refine K.yes rfl ?_
    repeat (first | refine K.seq ?_ | refine K.skip ?_ | refine K.block ?_ | refine K.inBlock ?_ | refine K.label ?_)
    refine K.region ?_
    refine KO.q rfl (q_assign rfl) ?_
    refine KO.done ?_
    repeat (first | refine K.seq ?_ | refine K.skip ?_ | refine K.block ?_ | refine K.inBlock ?_ | refine K.label ?_)
    refine K.ret (fn := Try.f34) Try.func34 (fun a w hk hs => res1 Try.results34 hk rfl) (fun w hs => ?_)
    exact ⟨_, RdL p q cap s, rfl, ⟨q, cap, by rw [e], by rw [e], by rw [e]; exact hc⟩, hs.fitD⟩
  · replace hf : s.f = false := by simpa using hf
    by_cases hl : (s.bs.length : Int) < 1
    · have e : s.flag = (false, ⟨[], true⟩) := by simp [Rd.flag, Rd.take_short hf (show s.bs.length < 1 by omega)]
      refine Fn.enter (N := 22) Try.func34 rfl Try.ntmps34 (by kernel_rfl) rfl (fun ρ L => ?_)
      repeat (first | refine K.seq ?_ | refine K.skip ?_ | refine K.block ?_ | refine K.inBlock ?_ | refine K.label ?_)
      refine K.region ?_
      refine KO.q rfl (q_assign rfl) ?_
      refine KO.done ?_
      repeat (first | refine K.seq ?_ | refine K.skip ?_ | refine K.block ?_ | refine K.inBlock ?_ | refine K.label ?_)
      repeat (first | refine K.seq ?_ | refine K.skip ?_ | refine K.block ?_ | refine K.inBlock ?_ | refine K.label ?_)
      refine K.region ?_
      refine KO.q rfl (q_move rfl) ?_
      refine KO.loud rfl (OpL.callE rfl (rd_take_short p q cap s 1 hf hl)) ?_
      rintro _ _ ⟨_, ⟨rfl, rfl⟩, rfl⟩
      refine KO.q rfl (q_move rfl) ?_
      refine KO.q rfl (q_extract rfl rfl) ?_
      refine KO.q rfl (q_extract rfl rfl) ?_
      refine KO.q rfl (q_assign rfl) ?_
      refine KO.q rfl (q_assign rfl) ?_
      refine KO.done ?_
      repeat (first | refine K.seq ?_ | refine K.skip ?_ | refine K.block ?_ | refine K.inBlock ?_ | refine K.label ?_)
      repeat (first | refine K.seq ?_ | refine K.skip ?_ | refine K.block ?_ | refine K.inBlock ?_ | refine K.label ?_)
      refine K.region ?_
      refine KO.q rfl (q_move rfl) ?_
      refine KO.q rfl (q_not rfl) ?_
      refine KO.done ?_
      repeat (first | refine K.seq ?_ | refine K.skip ?_ | refine K.block ?_ | refine K.inBlock ?_ | refine K.label ?_)
      refine K.yes rfl ?_
      repeat (first | refine K.seq ?_ | refine K.skip ?_ | refine K.block ?_ | refine K.inBlock ?_ | refine K.label ?_)
      refine K.region ?_
      refine KO.q rfl (q_assign rfl) ?_
      refine KO.done ?_
      repeat (first | refine K.seq ?_ | refine K.skip ?_ | refine K.block ?_ | refine K.inBlock ?_ | refine K.label ?_)
      refine K.ret (fn := Try.f34) Try.func34 (fun a w hk hs => res1 Try.results34 hk rfl) (fun w hs => ?_)
      exact ⟨_, RdL p none 0 ⟨[], true⟩, rfl, ⟨none, 0, by rw [e], by rw [e], by rw [e]; exact Nat.le_refl _⟩, hs.fitD⟩
    · obtain ⟨bs, f⟩ := s
      obtain rfl : f = false := hf
      replace hl : ¬ (bs.length : Int) < 1 := hl
      replace hc : bs.length ≤ cap := hc
      obtain ⟨c, l, rfl⟩ : ∃ c l, bs = c :: l := by
        cases bs with
        | nil => simp at hl
        | cons c l => exact ⟨c, l, rfl⟩
      have hb := c.toNat_lt
      refine Fn.enter (N := 22) Try.func34 rfl Try.ntmps34 (by kernel_rfl) rfl (fun ρ L => ?_)
      repeat (first | refine K.seq ?_ | refine K.skip ?_ | refine K.block ?_ | refine K.inBlock ?_ | refine K.label ?_)
      refine K.region ?_
      refine KO.q rfl (q_assign rfl) ?_
      refine KO.done ?_
      repeat (first | refine K.seq ?_ | refine K.skip ?_ | refine K.block ?_ | refine K.inBlock ?_ | refine K.label ?_)
      repeat (first | refine K.seq ?_ | refine K.skip ?_ | refine K.block ?_ | refine K.inBlock ?_ | refine K.label ?_)
      refine K.region ?_
      refine KO.q rfl (q_move rfl) ?_
      refine KO.loud rfl (OpL.callE rfl (rd_take_ok p q cap ⟨c :: l, false⟩ 1 rfl (by decide) (by simp; omega) hc)) ?_
      rintro _ _ ⟨_, ⟨rfl, rfl⟩, rfl⟩
      refine KO.q rfl (q_move rfl) ?_
      refine KO.q rfl (q_extract rfl rfl) ?_
      refine KO.q rfl (q_extract rfl rfl) ?_
      refine KO.q rfl (q_assign rfl) ?_
      refine KO.q rfl (q_assign rfl) ?_
      refine KO.done ?_
      repeat (first | refine K.seq ?_ | refine K.skip ?_ | refine K.block ?_ | refine K.inBlock ?_ | refine K.label ?_)
      repeat (first | refine K.seq ?_ | refine K.skip ?_ | refine K.block ?_ | refine K.inBlock ?_ | refine K.label ?_)
      refine K.region ?_
      refine KO.q rfl (q_move rfl) ?_
      refine KO.q rfl (q_not rfl) ?_
      refine KO.done ?_
      repeat (first | refine K.seq ?_ | refine K.skip ?_ | refine K.block ?_ | refine K.inBlock ?_ | refine K.label ?_)
      refine K.no rfl ?_
      have hx : ((Rd.mk (c :: l) false).bs.take (1 : Int).toNat)[(0 : Int).toNat]? = some c := rfl
      refine K.fact (rowF_addr (List.Mem.head _) (by intro e; rw [e] at hx; simp at hx)) (fun hq => ?_)
      obtain ⟨bq, oq, rfl⟩ := hq
      repeat (first | refine K.seq ?_ | refine K.skip ?_ | refine K.block ?_ | refine K.inBlock ?_ | refine K.label ?_)
      refine K.region ?_
      refine KO.q rfl (q_move rfl) ?_
      refine KO.q rfl (q_index se_25 rfl rfl (by first | omega | (simp; omega)) (by first | omega | (simp; omega))) ?_
      refine KO.q rfl (q_load1D ck_5 rfl) ?_
      refine KO.q rfl (q_gt rfl rfl) ?_
      refine KO.done ?_
      repeat (first | refine K.seq ?_ | refine K.skip ?_ | refine K.block ?_ | refine K.inBlock ?_ | refine K.label ?_)
      refine K.dite rfl (fun h => ?_) (fun h => ?_)
      · have e : (Rd.mk (c :: l) false).flag = (false, ⟨[], true⟩) := by
          have : 1 < c.toNat := by omega
          simp [Rd.flag, Rd.take, this]
        repeat (first | refine K.seq ?_ | refine K.skip ?_ | refine K.block ?_ | refine K.inBlock ?_ | refine K.label ?_)
        refine K.region ?_
        refine KO.q rfl (q_move rfl) ?_
        refine KO.loud rfl (OpL.callE rfl (rd_fail p _ _)) ?_
        rintro _ _ ⟨_, ⟨rfl, rfl⟩, rfl⟩
        refine KO.done ?_
        repeat (first | refine K.seq ?_ | refine K.skip ?_ | refine K.block ?_ | refine K.inBlock ?_ | refine K.label ?_)
        repeat (first | refine K.seq ?_ | refine K.skip ?_ | refine K.block ?_ | refine K.inBlock ?_ | refine K.label ?_)
        refine K.region ?_
        refine KO.q rfl (q_assign rfl) ?_
        refine KO.done ?_
        repeat (first | refine K.seq ?_ | refine K.skip ?_ | refine K.block ?_ | refine K.inBlock ?_ | refine K.label ?_)
        refine K.ret (fn := Try.f34) Try.func34 (fun a w hk hs => res1 Try.results34 hk rfl) (fun w hs => ?_)
        exact ⟨_, RdL p none 0 ⟨[], true⟩, rfl, ⟨none, 0, by rw [e], by rw [e], by rw [e]; exact Nat.le_refl _⟩, (rowF_nil (k := Kd.u8) none hs).fitD⟩
      · have e : (Rd.mk (c :: l) false).flag = (c.toNat == 1, ⟨l, false⟩) := by
          have : ¬ 1 < c.toNat := by omega
          simp [Rd.flag, Rd.take, this]
        repeat (first | refine K.seq ?_ | refine K.skip ?_ | refine K.block ?_ | refine K.inBlock ?_ | refine K.label ?_)
        refine K.region ?_
        refine KO.q rfl (q_move rfl) ?_
        refine KO.q rfl (q_index se_25 rfl rfl (by first | omega | (simp; omega)) (by first | omega | (simp; omega))) ?_
        refine KO.q rfl (q_load1D ck_5 rfl) ?_
        refine KO.q rfl (q_eq rfl rfl) ?_
        refine KO.q rfl (q_assign rfl) ?_
        refine KO.done ?_
        repeat (first | refine K.seq ?_ | refine K.skip ?_ | refine K.block ?_ | refine K.inBlock ?_ | refine K.label ?_)
        refine K.ret (fn := Try.f34) Try.func34 (fun a w hk hs => res1 Try.results34 hk rfl) (fun w hs => ?_)
        have e3 : decide ((c.toNat : Int) = 1) = (c.toNat == 1) := by
          by_cases h1 : c.toNat = 1
          · simp [h1]
          · have h2 : ¬ (c.toNat : Int) = 1 := by omega
            simp [h1, h2]
        rw [e3]
        exact ⟨_, RdL p (cutAddr (some ⟨bq, oq, none⟩) cap 1 1) (cap - 1) ⟨l, false⟩, rfl, ⟨_, _, by rw [e], by rw [e], by rw [e]; simp at hc ⊢; omega⟩, hs.fitD⟩
theorem rd_Failed (p : Nat) (q : Option Addr) (cap : Nat) (s : Rd) : Fn Try.prog 68 [.pointer (some ⟨p, 0, none⟩)].toArray (RdL p q cap s) (fun r post => r = .bool s.f ∧ post = RdL p q cap s) := by
  refine Fn.enter (N := 11) Try.func68 rfl Try.ntmps68 (by kernel_rfl) rfl (fun ρ L => ?_)
  repeat (first | refine K.seq ?_ | refine K.skip ?_ | refine K.block ?_ | refine K.inBlock ?_ | refine K.label ?_)
  refine K.region ?_
  refine KO.q rfl (q_assign rfl) ?_
  refine KO.done ?_
  repeat (first | refine K.seq ?_ | refine K.skip ?_ | refine K.block ?_ | refine K.inBlock ?_ | refine K.label ?_)
  repeat (first | refine K.seq ?_ | refine K.skip ?_ | refine K.block ?_ | refine K.inBlock ?_ | refine K.label ?_)
  refine K.region ?_
  refine KO.q rfl (q_move rfl) ?_
  refine KO.q rfl (q_pnn Try.underlying38 rfl rfl) ?_
  refine KO.q rfl (q_move rfl) ?_
  refine KO.q rfl (q_move rfl) ?_
  refine KO.q rfl (q_nilCheck rfl) ?_
  refine KO.q rfl (q_field fo_90_1 rfl) ?_
  refine KO.q rfl (q_load1D ck_4 rfl) ?_
  refine KO.q rfl (q_pickT rfl rfl) ?_
  refine KO.q rfl (q_assign rfl) ?_
  refine KO.done ?_
  repeat (first | refine K.seq ?_ | refine K.skip ?_ | refine K.block ?_ | refine K.inBlock ?_ | refine K.label ?_)
  refine K.ret (fn := Try.f68) Try.func68 (fun a w hk hs => res1 Try.results68 hk rfl) (fun w hs => ?_)
  exact ⟨_, RdL p q cap s, rfl, ⟨rfl, rfl⟩, hs.fitD⟩
theorem rd_Left (p : Nat) (q : Option Addr) (cap : Nat) (s : Rd) : Fn Try.prog 69 [.pointer (some ⟨p, 0, none⟩)].toArray (RdL p q cap s) (fun r post => r = .int .i64 s.bs.length ∧ post = RdL p q cap s) := by
  refine Fn.enter (N := 10) Try.func69 rfl Try.ntmps69 (by kernel_rfl) rfl (fun ρ L => ?_)
  repeat (first | refine K.seq ?_ | refine K.skip ?_ | refine K.block ?_ | refine K.inBlock ?_ | refine K.label ?_)
  refine K.region ?_
  refine KO.q rfl (q_assign rfl) ?_
  refine KO.done ?_
  repeat (first | refine K.seq ?_ | refine K.skip ?_ | refine K.block ?_ | refine K.inBlock ?_ | refine K.label ?_)
  repeat (first | refine K.seq ?_ | refine K.skip ?_ | refine K.block ?_ | refine K.inBlock ?_ | refine K.label ?_)
  refine K.region ?_
  refine KO.q rfl (q_move rfl) ?_
  refine KO.q rfl (q_pnil Try.underlying38 rfl rfl) ?_
  refine KO.done ?_
  repeat (first | refine K.seq ?_ | refine K.skip ?_ | refine K.block ?_ | refine K.inBlock ?_ | refine K.label ?_)
  refine K.no rfl ?_
  repeat (first | refine K.seq ?_ | refine K.skip ?_ | refine K.block ?_ | refine K.inBlock ?_ | refine K.label ?_)
  refine K.region ?_
  refine KO.q rfl (q_move rfl) ?_
  refine KO.q rfl (q_nilCheck rfl) ?_
  refine KO.q rfl (q_field fo_90_0 rfl) ?_
  refine KO.q rfl (q_load1D ck_25 rfl) ?_
  refine KO.q rfl (q_len Try.underlying25 rfl) ?_
  refine KO.q rfl (q_assign rfl) ?_
  refine KO.done ?_
  repeat (first | refine K.seq ?_ | refine K.skip ?_ | refine K.block ?_ | refine K.inBlock ?_ | refine K.label ?_)
  refine K.ret (fn := Try.f69) Try.func69 (fun a w hk hs => res1 Try.results69 hk rfl) (fun w hs => ?_)
  exact ⟨_, RdL p q cap s, rfl, ⟨rfl, rfl⟩, hs.fitD⟩
theorem rd_Done (p : Nat) (q : Option Addr) (cap : Nat) (s : Rd) : Fn Try.prog 30 [.pointer (some ⟨p, 0, none⟩)].toArray (RdL p q cap s) (fun r post => r = .bool s.done ∧ post = RdL p q cap s) := by
  refine Fn.enter (N := 11) Try.func30 rfl Try.ntmps30 (by kernel_rfl) rfl (fun ρ L => ?_)
  repeat (first | refine K.seq ?_ | refine K.skip ?_ | refine K.block ?_ | refine K.inBlock ?_ | refine K.label ?_)
  refine K.region ?_
  refine KO.q rfl (q_assign rfl) ?_
  refine KO.done ?_
  repeat (first | refine K.seq ?_ | refine K.skip ?_ | refine K.block ?_ | refine K.inBlock ?_ | refine K.label ?_)
  repeat (first | refine K.seq ?_ | refine K.skip ?_ | refine K.block ?_ | refine K.inBlock ?_ | refine K.label ?_)
  refine K.region ?_
  refine KO.q rfl (q_move rfl) ?_
  refine KO.loud rfl (OpL.callE rfl (rd_Failed p q cap s)) ?_
  rintro _ _ ⟨_, ⟨rfl, rfl⟩, rfl⟩
  refine KO.q rfl (q_not rfl) ?_
  refine KO.q rfl (q_move rfl) ?_
  refine KO.split 6 rfl (fun g6 => ?_) (fun g6 => ?_)
  · refine KO.q rfl (q_move rfl) ?_
    refine KO.loud rfl (OpL.callE rfl (rd_Left p q cap s)) ?_
    rintro _ _ ⟨_, ⟨rfl, rfl⟩, rfl⟩
    refine KO.q rfl (q_eq rfl rfl) ?_
    refine KO.q rfl (q_pickT rfl rfl) ?_
    refine KO.q rfl (q_assign rfl) ?_
    refine KO.done ?_
    repeat (first | refine K.seq ?_ | refine K.skip ?_ | refine K.block ?_ | refine K.inBlock ?_ | refine K.label ?_)
    refine K.ret (fn := Try.f30) Try.func30 (fun a w hk hs => res1 Try.results30 hk rfl) (fun w hs => ?_)
    refine ⟨_, RdL p q cap s, rfl, ⟨?_, rfl⟩, hs.fitD⟩
    simp [Rd.done, *] <;> (cases s.bs <;> simp)
  · refine KO.skip rfl ?_
    refine KO.skip rfl ?_
    refine KO.skip rfl ?_
    refine KO.q rfl (q_pickF rfl rfl) ?_
    refine KO.q rfl (q_assign rfl) ?_
    refine KO.done ?_
    repeat (first | refine K.seq ?_ | refine K.skip ?_ | refine K.block ?_ | refine K.inBlock ?_ | refine K.label ?_)
    refine K.ret (fn := Try.f30) Try.func30 (fun a w hk hs => res1 Try.results30 hk rfl) (fun w hs => ?_)
    refine ⟨_, RdL p q cap s, rfl, ⟨?_, rfl⟩, hs.fitD⟩
    simp [Rd.done, *] <;> (cases s.bs <;> simp)
end Go.Proofs.Ytlellgnklohclaa.L
