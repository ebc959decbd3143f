/- Walks: small predicates. Walks: the reader of package bytes. Walks: the reader of package bytes, continued. Walks: the reader of package bytes: Int, Text, Flag, Done, NewReader. -/
import Derived.Test.YthnmoiilaaoooaaGreatLC
import Derived.Test.YthnmoiilaaoooaaGreatTab
import Derived.Test.YthnmoiilaaoooaaGreatPA
/-! Walks: small predicates. -/
namespace Go.Proofs.YthnmoiilaaoooaaGreat.L
open Go Go.Proofs
attribute [local irreducible] pv fv pt fz RowF RowO rowP old pure_
set_option maxRecDepth 100000
set_option linter.unusedSimpArgs false
set_option linter.unusedVariables false

theorem rows_Key (s : ByteArray) : Fn Tryz.prog 74 [.string s].toArray [] (fun v post => v = .bool (decide (1 ≤ (s.size : Int)) && decide ((s.size : Int) ≤ 40)) ∧ post = []) := by
  refine Fn.enter (N := 11) Tryz.func74 rfl Tryz.ntmps74 (by kernel_rfl) rfl (fun ρ L => ?_)
  repeat (first | refine K.seq ?_ | refine K.skip ?_ | refine K.block ?_ | refine K.inBlock ?_ | refine K.label ?_)
  refine K.region ?_
  refine KO.q rfl (q_assign rfl) ?_
  refine KO.done ?_
  repeat (first | refine K.seq ?_ | refine K.skip ?_ | refine K.block ?_ | refine K.inBlock ?_ | refine K.label ?_)
  repeat (first | refine K.seq ?_ | refine K.skip ?_ | refine K.block ?_ | refine K.inBlock ?_ | refine K.label ?_)
  refine K.region ?_
  refine KO.q rfl (q_move rfl) ?_
  refine KO.q rfl (q_lenS Tryz.underlying9 rfl) ?_
  refine KO.q rfl (q_ge rfl rfl) ?_
  refine KO.q rfl (q_move rfl) ?_
  refine KO.dsplit 6 rfl (fun g6 => ?_) (fun g6 => ?_)
  · refine KO.q rfl (q_move rfl) ?_
    refine KO.q rfl (q_lenS Tryz.underlying9 rfl) ?_
    refine KO.q rfl (q_le rfl rfl) ?_
    refine KO.q rfl (q_pickT rfl rfl) ?_
    refine KO.q rfl (q_assign rfl) ?_
    refine KO.done ?_
    repeat (first | refine K.seq ?_ | refine K.skip ?_ | refine K.block ?_ | refine K.inBlock ?_ | refine K.label ?_)
    refine K.ret (fn := Tryz.f74) Tryz.func74 (fun a w hk hs => res1 Tryz.results74 hk rfl) (fun w hs => ?_)
    exact ⟨_, [], rfl, ⟨by simp [*], rfl⟩, hs⟩
  · refine KO.skip rfl ?_
    refine KO.skip rfl ?_
    refine KO.skip rfl ?_
    refine KO.q rfl (q_pickF rfl rfl) ?_
    refine KO.q rfl (q_assign rfl) ?_
    refine KO.done ?_
    repeat (first | refine K.seq ?_ | refine K.skip ?_ | refine K.block ?_ | refine K.inBlock ?_ | refine K.label ?_)
    refine K.ret (fn := Tryz.f74) Tryz.func74 (fun a w hk hs => res1 Tryz.results74 hk rfl) (fun w hs => ?_)
    exact ⟨_, [], rfl, ⟨by simp [*], rfl⟩, hs⟩
theorem message_Right (a b c : Int) (d : Bool) (s t : ByteArray) : Fn Tryz.prog 67 [.agg #[.int .i64 a, .int .i64 b, .int .i64 c, .bool d, .string s, .string t]].toArray [] (fun v post => v = .bool (decide (1 ≤ a) && decide (a ≤ 1099511627776) && decide (-1000 ≤ b) && decide (b ≤ 1000) && decide (0 ≤ c) && decide (c ≤ 1000) && decide ((s.size : Int) ≤ 40) && decide ((t.size : Int) ≤ 100)) ∧ post = []) := by
  refine Fn.enter (N := 43) Tryz.func67 rfl Tryz.ntmps67 (by kernel_rfl) rfl (fun ρ L => ?_)
  repeat (first | refine K.seq ?_ | refine K.skip ?_ | refine K.block ?_ | refine K.inBlock ?_ | refine K.label ?_)
  refine K.region ?_
  refine KO.loud rfl (l_box rfl rfl) ?_
  rintro _ _ ⟨b1, rfl, rfl⟩
  refine KO.q rfl (q_assign rfl) ?_
  refine KO.done ?_
  repeat (first | refine K.seq ?_ | refine K.skip ?_ | refine K.block ?_ | refine K.inBlock ?_ | refine K.label ?_)
  repeat (first | refine K.seq ?_ | refine K.skip ?_ | refine K.block ?_ | refine K.inBlock ?_ | refine K.label ?_)
  refine K.region ?_
  refine KO.q rfl (q_field fo_39_0 rfl) ?_
  refine KO.q rfl (q_load1D ck_3 rfl) ?_
  refine KO.q rfl (q_ge rfl rfl) ?_
  refine KO.q rfl (q_move rfl) ?_
  refine KO.dsplit 6 rfl (fun g6 => ?_) (fun g6 => ?_)
  · refine KO.q rfl (q_field fo_39_0 rfl) ?_
    refine KO.q rfl (q_load1D ck_3 rfl) ?_
    refine KO.q rfl (q_le rfl rfl) ?_
    refine KO.q rfl (q_pickT rfl rfl) ?_
    refine KO.q rfl (q_move rfl) ?_
    refine KO.dsplit 11 rfl (fun g11 => ?_) (fun g11 => ?_)
    · refine KO.q rfl (q_field fo_39_1 rfl) ?_
      refine KO.q rfl (q_load1D ck_3 rfl) ?_
      refine KO.q rfl (q_ge rfl rfl) ?_
      refine KO.q rfl (q_pickT rfl rfl) ?_
      refine KO.q rfl (q_move rfl) ?_
      refine KO.dsplit 16 rfl (fun g16 => ?_) (fun g16 => ?_)
      · refine KO.q rfl (q_field fo_39_1 rfl) ?_
        refine KO.q rfl (q_load1D ck_3 rfl) ?_
        refine KO.q rfl (q_le rfl rfl) ?_
        refine KO.q rfl (q_pickT rfl rfl) ?_
        refine KO.q rfl (q_move rfl) ?_
        refine KO.dsplit 21 rfl (fun g21 => ?_) (fun g21 => ?_)
        · refine KO.q rfl (q_field fo_39_2 rfl) ?_
          refine KO.q rfl (q_load1D ck_3 rfl) ?_
          refine KO.q rfl (q_ge rfl rfl) ?_
          refine KO.q rfl (q_pickT rfl rfl) ?_
          refine KO.q rfl (q_move rfl) ?_
          refine KO.dsplit 26 rfl (fun g26 => ?_) (fun g26 => ?_)
          · refine KO.q rfl (q_field fo_39_2 rfl) ?_
            refine KO.q rfl (q_load1D ck_3 rfl) ?_
            refine KO.q rfl (q_le rfl rfl) ?_
            refine KO.q rfl (q_pickT rfl rfl) ?_
            refine KO.q rfl (q_move rfl) ?_
            refine KO.dsplit 31 rfl (fun g31 => ?_) (fun g31 => ?_)
            · refine KO.q rfl (q_field fo_39_4 rfl) ?_
              refine KO.q rfl (q_load1D ck_9 rfl) ?_
              refine KO.q rfl (q_lenS Tryz.underlying9 rfl) ?_
              refine KO.q rfl (q_le rfl rfl) ?_
              refine KO.q rfl (q_pickT rfl rfl) ?_
              refine KO.q rfl (q_move rfl) ?_
              refine KO.dsplit 37 rfl (fun g37 => ?_) (fun g37 => ?_)
              · refine KO.q rfl (q_field fo_39_5 rfl) ?_
                refine KO.q rfl (q_load1D ck_9 rfl) ?_
                refine KO.q rfl (q_lenS Tryz.underlying9 rfl) ?_
                refine KO.q rfl (q_le rfl rfl) ?_
                refine KO.q rfl (q_pickT rfl rfl) ?_
                refine KO.q rfl (q_assign rfl) ?_
                refine KO.done ?_
                repeat (first | refine K.seq ?_ | refine K.skip ?_ | refine K.block ?_ | refine K.inBlock ?_ | refine K.label ?_)
                refine K.ret (fn := Tryz.f67) Tryz.func67 (fun a w hk hs => res1 Tryz.results67 hk rfl) (fun w hs => ?_)
                exact ⟨_, [], rfl, ⟨by simp [*], rfl⟩, hs.tail⟩
              · refine KO.skip rfl ?_
                refine KO.skip rfl ?_
                refine KO.skip rfl ?_
                refine KO.skip rfl ?_
                refine KO.q rfl (q_pickF rfl rfl) ?_
                refine KO.q rfl (q_assign rfl) ?_
                refine KO.done ?_
                repeat (first | refine K.seq ?_ | refine K.skip ?_ | refine K.block ?_ | refine K.inBlock ?_ | refine K.label ?_)
                refine K.ret (fn := Tryz.f67) Tryz.func67 (fun a w hk hs => res1 Tryz.results67 hk rfl) (fun w hs => ?_)
                exact ⟨_, [], rfl, ⟨by simp [*], rfl⟩, hs.tail⟩
            · refine KO.skip rfl ?_
              refine KO.skip rfl ?_
              refine KO.skip rfl ?_
              refine KO.skip rfl ?_
              refine KO.q rfl (q_pickF rfl rfl) ?_
              refine KO.q rfl (q_move rfl) ?_
              refine KO.skip rfl ?_
              refine KO.skip rfl ?_
              refine KO.skip rfl ?_
              refine KO.skip rfl ?_
              refine KO.q rfl (q_pickF rfl rfl) ?_
              refine KO.q rfl (q_assign rfl) ?_
              refine KO.done ?_
              repeat (first | refine K.seq ?_ | refine K.skip ?_ | refine K.block ?_ | refine K.inBlock ?_ | refine K.label ?_)
              refine K.ret (fn := Tryz.f67) Tryz.func67 (fun a w hk hs => res1 Tryz.results67 hk rfl) (fun w hs => ?_)
              exact ⟨_, [], rfl, ⟨by simp [*], rfl⟩, hs.tail⟩
          · refine KO.skip rfl ?_
            refine KO.skip rfl ?_
            refine KO.skip rfl ?_
            refine KO.q rfl (q_pickF rfl rfl) ?_
            refine KO.q rfl (q_move rfl) ?_
            refine KO.skip rfl ?_
            refine KO.skip rfl ?_
            refine KO.skip rfl ?_
            refine KO.skip rfl ?_
            refine KO.q rfl (q_pickF rfl rfl) ?_
            refine KO.q rfl (q_move rfl) ?_
            refine KO.skip rfl ?_
            refine KO.skip rfl ?_
            refine KO.skip rfl ?_
            refine KO.skip rfl ?_
            refine KO.q rfl (q_pickF rfl rfl) ?_
            refine KO.q rfl (q_assign rfl) ?_
            refine KO.done ?_
            repeat (first | refine K.seq ?_ | refine K.skip ?_ | refine K.block ?_ | refine K.inBlock ?_ | refine K.label ?_)
            refine K.ret (fn := Tryz.f67) Tryz.func67 (fun a w hk hs => res1 Tryz.results67 hk rfl) (fun w hs => ?_)
            exact ⟨_, [], rfl, ⟨by simp [*], rfl⟩, hs.tail⟩
        · refine KO.skip rfl ?_
          refine KO.skip rfl ?_
          refine KO.skip rfl ?_
          refine KO.q rfl (q_pickF rfl rfl) ?_
          refine KO.q rfl (q_move rfl) ?_
          refine KO.skip rfl ?_
          refine KO.skip rfl ?_
          refine KO.skip rfl ?_
          refine KO.q rfl (q_pickF rfl rfl) ?_
          refine KO.q rfl (q_move rfl) ?_
          refine KO.skip rfl ?_
          refine KO.skip rfl ?_
          refine KO.skip rfl ?_
          refine KO.skip rfl ?_
          refine KO.q rfl (q_pickF rfl rfl) ?_
          refine KO.q rfl (q_move rfl) ?_
          refine KO.skip rfl ?_
          refine KO.skip rfl ?_
          refine KO.skip rfl ?_
          refine KO.skip rfl ?_
          refine KO.q rfl (q_pickF rfl rfl) ?_
          refine KO.q rfl (q_assign rfl) ?_
          refine KO.done ?_
          repeat (first | refine K.seq ?_ | refine K.skip ?_ | refine K.block ?_ | refine K.inBlock ?_ | refine K.label ?_)
          refine K.ret (fn := Tryz.f67) Tryz.func67 (fun a w hk hs => res1 Tryz.results67 hk rfl) (fun w hs => ?_)
          exact ⟨_, [], rfl, ⟨by simp [*], rfl⟩, hs.tail⟩
      · refine KO.skip rfl ?_
        refine KO.skip rfl ?_
        refine KO.skip rfl ?_
        refine KO.q rfl (q_pickF rfl rfl) ?_
        refine KO.q rfl (q_move rfl) ?_
        refine KO.skip rfl ?_
        refine KO.skip rfl ?_
        refine KO.skip rfl ?_
        refine KO.q rfl (q_pickF rfl rfl) ?_
        refine KO.q rfl (q_move rfl) ?_
        refine KO.skip rfl ?_
        refine KO.skip rfl ?_
        refine KO.skip rfl ?_
        refine KO.q rfl (q_pickF rfl rfl) ?_
        refine KO.q rfl (q_move rfl) ?_
        refine KO.skip rfl ?_
        refine KO.skip rfl ?_
        refine KO.skip rfl ?_
        refine KO.skip rfl ?_
        refine KO.q rfl (q_pickF rfl rfl) ?_
        refine KO.q rfl (q_move rfl) ?_
        refine KO.skip rfl ?_
        refine KO.skip rfl ?_
        refine KO.skip rfl ?_
        refine KO.skip rfl ?_
        refine KO.q rfl (q_pickF rfl rfl) ?_
        refine KO.q rfl (q_assign rfl) ?_
        refine KO.done ?_
        repeat (first | refine K.seq ?_ | refine K.skip ?_ | refine K.block ?_ | refine K.inBlock ?_ | refine K.label ?_)
        refine K.ret (fn := Tryz.f67) Tryz.func67 (fun a w hk hs => res1 Tryz.results67 hk rfl) (fun w hs => ?_)
        exact ⟨_, [], rfl, ⟨by simp [*], rfl⟩, hs.tail⟩
    · refine KO.skip rfl ?_
      refine KO.skip rfl ?_
      refine KO.skip rfl ?_
      refine KO.q rfl (q_pickF rfl rfl) ?_
      refine KO.q rfl (q_move rfl) ?_
      refine KO.skip rfl ?_
      refine KO.skip rfl ?_
      refine KO.skip rfl ?_
      refine KO.q rfl (q_pickF rfl rfl) ?_
      refine KO.q rfl (q_move rfl) ?_
      refine KO.skip rfl ?_
      refine KO.skip rfl ?_
      refine KO.skip rfl ?_
      refine KO.q rfl (q_pickF rfl rfl) ?_
      refine KO.q rfl (q_move rfl) ?_
      refine KO.skip rfl ?_
      refine KO.skip rfl ?_
      refine KO.skip rfl ?_
      refine KO.q rfl (q_pickF rfl rfl) ?_
      refine KO.q rfl (q_move rfl) ?_
      refine KO.skip rfl ?_
      refine KO.skip rfl ?_
      refine KO.skip rfl ?_
      refine KO.skip rfl ?_
      refine KO.q rfl (q_pickF rfl rfl) ?_
      refine KO.q rfl (q_move rfl) ?_
      refine KO.skip rfl ?_
      refine KO.skip rfl ?_
      refine KO.skip rfl ?_
      refine KO.skip rfl ?_
      refine KO.q rfl (q_pickF rfl rfl) ?_
      refine KO.q rfl (q_assign rfl) ?_
      refine KO.done ?_
      repeat (first | refine K.seq ?_ | refine K.skip ?_ | refine K.block ?_ | refine K.inBlock ?_ | refine K.label ?_)
      refine K.ret (fn := Tryz.f67) Tryz.func67 (fun a w hk hs => res1 Tryz.results67 hk rfl) (fun w hs => ?_)
      exact ⟨_, [], rfl, ⟨by simp [*], rfl⟩, hs.tail⟩
  · refine KO.skip rfl ?_
    refine KO.skip rfl ?_
    refine KO.skip rfl ?_
    refine KO.q rfl (q_pickF rfl rfl) ?_
    refine KO.q rfl (q_move rfl) ?_
    refine KO.skip rfl ?_
    refine KO.skip rfl ?_
    refine KO.skip rfl ?_
    refine KO.q rfl (q_pickF rfl rfl) ?_
    refine KO.q rfl (q_move rfl) ?_
    refine KO.skip rfl ?_
    refine KO.skip rfl ?_
    refine KO.skip rfl ?_
    refine KO.q rfl (q_pickF rfl rfl) ?_
    refine KO.q rfl (q_move rfl) ?_
    refine KO.skip rfl ?_
    refine KO.skip rfl ?_
    refine KO.skip rfl ?_
    refine KO.q rfl (q_pickF rfl rfl) ?_
    refine KO.q rfl (q_move rfl) ?_
    refine KO.skip rfl ?_
    refine KO.skip rfl ?_
    refine KO.skip rfl ?_
    refine KO.q rfl (q_pickF rfl rfl) ?_
    refine KO.q rfl (q_move rfl) ?_
    refine KO.skip rfl ?_
    refine KO.skip rfl ?_
    refine KO.skip rfl ?_
    refine KO.skip rfl ?_
    refine KO.q rfl (q_pickF rfl rfl) ?_
    refine KO.q rfl (q_move rfl) ?_
    refine KO.skip rfl ?_
    refine KO.skip rfl ?_
    refine KO.skip rfl ?_
    refine KO.skip rfl ?_
    refine KO.q rfl (q_pickF rfl rfl) ?_
    refine KO.q rfl (q_assign rfl) ?_
    refine KO.done ?_
    repeat (first | refine K.seq ?_ | refine K.skip ?_ | refine K.block ?_ | refine K.inBlock ?_ | refine K.label ?_)
    refine K.ret (fn := Tryz.f67) Tryz.func67 (fun a w hk hs => res1 Tryz.results67 hk rfl) (fun w hs => ?_)
    exact ⟨_, [], rfl, ⟨by simp [*], rfl⟩, hs.tail⟩
end Go.Proofs.YthnmoiilaaoooaaGreat.L
