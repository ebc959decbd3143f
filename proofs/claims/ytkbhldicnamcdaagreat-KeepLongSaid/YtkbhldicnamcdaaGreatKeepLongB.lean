/- A store goes on over any number of changes, image by image, and is opened as it was; no condition. -/
import Derived.Test.YtkbhldicnamcdaaGreatProg
import Derived.WalkKit
import Derived.Test.YtkbhldicnamcdaaGreatKeepLongA
namespace Go.Proofs.YtkbhldicnamcdaaGreat.L
open Go Go.Proofs
theorem fo_47_0 : fieldOff Tryz.prog 47 0 = some 0 := by kernel_rfl
theorem fo_47_1 : fieldOff Tryz.prog 47 1 = some 1 := by kernel_rfl
theorem fo_56_0 : fieldOff Tryz.prog 56 0 = some 0 := by kernel_rfl
theorem fo_56_1 : fieldOff Tryz.prog 56 1 = some 1 := by kernel_rfl
theorem fo_56_2 : fieldOff Tryz.prog 56 2 = some 2 := by kernel_rfl
theorem fo_56_3 : fieldOff Tryz.prog 56 3 = some 3 := by kernel_rfl
theorem fo_56_4 : fieldOff Tryz.prog 56 4 = some 4 := by kernel_rfl
theorem fo_56_5 : fieldOff Tryz.prog 56 5 = some 5 := by kernel_rfl
theorem fo_58_0 : fieldOff Tryz.prog 58 0 = some 0 := by kernel_rfl
theorem fo_58_1 : fieldOff Tryz.prog 58 1 = some 1 := by kernel_rfl
theorem fo_58_2 : fieldOff Tryz.prog 58 2 = some 2 := by kernel_rfl
theorem fo_58_3 : fieldOff Tryz.prog 58 3 = some 3 := by kernel_rfl
theorem fo_58_4 : fieldOff Tryz.prog 58 4 = some 4 := by kernel_rfl
theorem fo_58_5 : fieldOff Tryz.prog 58 5 = some 5 := by kernel_rfl
theorem fo_58_6 : fieldOff Tryz.prog 58 6 = some 6 := by kernel_rfl
theorem fo_58_7 : fieldOff Tryz.prog 58 7 = some 7 := by kernel_rfl
theorem fo_62_0 : fieldOff Tryz.prog 62 0 = some 0 := by kernel_rfl
theorem fo_62_1 : fieldOff Tryz.prog 62 1 = some 1 := by kernel_rfl
theorem fo_62_2 : fieldOff Tryz.prog 62 2 = some 2 := by kernel_rfl
theorem fo_62_3 : fieldOff Tryz.prog 62 3 = some 3 := by kernel_rfl
theorem fo_62_4 : fieldOff Tryz.prog 62 4 = some 4 := by kernel_rfl
theorem fo_62_5 : fieldOff Tryz.prog 62 5 = some 5 := by kernel_rfl
theorem fo_83_0 : fieldOff Tryz.prog 83 0 = some 0 := by kernel_rfl
theorem fo_83_1 : fieldOff Tryz.prog 83 1 = some 1 := by kernel_rfl
theorem fo_83_2 : fieldOff Tryz.prog 83 2 = some 2 := by kernel_rfl
theorem fo_83_3 : fieldOff Tryz.prog 83 3 = some 3 := by kernel_rfl
theorem fo_83_4 : fieldOff Tryz.prog 83 4 = some 4 := by kernel_rfl
theorem fo_83_5 : fieldOff Tryz.prog 83 5 = some 5 := by kernel_rfl
theorem fo_97_0 : fieldOff Tryz.prog 97 0 = some 0 := by kernel_rfl
theorem fo_97_1 : fieldOff Tryz.prog 97 1 = some 1 := by kernel_rfl
theorem fo_97_2 : fieldOff Tryz.prog 97 2 = some 2 := by kernel_rfl
theorem fo_97_3 : fieldOff Tryz.prog 97 3 = some 4 := by kernel_rfl
theorem fo_97_4 : fieldOff Tryz.prog 97 4 = some 5 := by kernel_rfl
theorem fo_136_0 : fieldOff Tryz.prog 136 0 = some 0 := by kernel_rfl
theorem fo_136_1 : fieldOff Tryz.prog 136 1 = some 1 := by kernel_rfl
theorem fo_150_0 : fieldOff Tryz.prog 150 0 = some 0 := by kernel_rfl
theorem fo_173_0 : fieldOff Tryz.prog 173 0 = some 0 := by kernel_rfl
theorem fo_173_1 : fieldOff Tryz.prog 173 1 = some 1 := by kernel_rfl
theorem fo_178_0 : fieldOff Tryz.prog 178 0 = some 0 := by kernel_rfl
theorem fo_178_2 : fieldOff Tryz.prog 178 2 = some 2 := by kernel_rfl
theorem fo_178_3 : fieldOff Tryz.prog 178 3 = some 3 := by kernel_rfl
theorem fo_178_4 : fieldOff Tryz.prog 178 4 = some 4 := by kernel_rfl
theorem fo_178_5 : fieldOff Tryz.prog 178 5 = some 5 := by kernel_rfl
theorem fo_178_6 : fieldOff Tryz.prog 178 6 = some 6 := by kernel_rfl
theorem fo_207_0 : fieldOff Tryz.prog 207 0 = some 0 := by kernel_rfl
theorem fo_207_1 : fieldOff Tryz.prog 207 1 = some 1 := by kernel_rfl
theorem ck_3 : cellK Tryz.prog 3 = some (false, 1) := by kernel_rfl
theorem ck_4 : cellK Tryz.prog 4 = some (false, 1) := by kernel_rfl
theorem ck_5 : cellK Tryz.prog 5 = some (false, 1) := by kernel_rfl
theorem ck_9 : cellK Tryz.prog 9 = some (false, 1) := by kernel_rfl
theorem ck_23 : cellK Tryz.prog 23 = some (false, 1) := by kernel_rfl
theorem ck_25 : cellK Tryz.prog 25 = some (false, 1) := by kernel_rfl
theorem ck_45 : cellK Tryz.prog 45 = some (false, 1) := by kernel_rfl
theorem ck_47 : cellK Tryz.prog 47 = some (true, 2) := by kernel_rfl
theorem ck_56 : cellK Tryz.prog 56 = some (true, 6) := by kernel_rfl
theorem ck_58 : cellK Tryz.prog 58 = some (true, 13) := by kernel_rfl
theorem ck_59 : cellK Tryz.prog 59 = some (false, 1) := by kernel_rfl
theorem ck_60 : cellK Tryz.prog 60 = some (false, 1) := by kernel_rfl
theorem ck_62 : cellK Tryz.prog 62 = some (true, 6) := by kernel_rfl
theorem ck_80 : cellK Tryz.prog 80 = some (false, 1) := by kernel_rfl
theorem ck_81 : cellK Tryz.prog 81 = some (false, 1) := by kernel_rfl
theorem ck_95 : cellK Tryz.prog 95 = some (false, 1) := by kernel_rfl
theorem ck_136 : cellK Tryz.prog 136 = some (true, 2) := by kernel_rfl
theorem ck_165 : cellK Tryz.prog 165 = some (false, 1) := by kernel_rfl
theorem ck_169 : cellK Tryz.prog 169 = some (false, 1) := by kernel_rfl
theorem ck_170 : cellK Tryz.prog 170 = some (false, 1) := by kernel_rfl
theorem se_22 : slElem Tryz.prog 22 = some (3, 1, 8) := by kernel_rfl
theorem se_23 : slElem Tryz.prog 23 = some (5, 1, 1) := by kernel_rfl
theorem ze_5 : zeroOf Tryz.prog 5 = some [(.int .u8 0)] := by kernel_rfl
theorem se_45 : slElem Tryz.prog 45 = some (62, 6, 104) := by kernel_rfl
theorem ze_62 : zeroOf Tryz.prog 62 = some [(.string ⟨#[]⟩), (.int .i64 0), (.int .i64 0), (.slice none 0 0), (.slice none 0 0), (.slice none 0 0)] := by kernel_rfl
theorem se_59 : slElem Tryz.prog 59 = some (136, 2, 32) := by kernel_rfl
theorem ze_136 : zeroOf Tryz.prog 136 = some [(.string ⟨#[]⟩), (.string ⟨#[]⟩)] := by kernel_rfl
theorem se_60 : slElem Tryz.prog 60 = some (56, 6, 64) := by kernel_rfl
theorem ze_56 : zeroOf Tryz.prog 56 = some [(.int .i64 0), (.int .i64 0), (.int .i64 0), (.bool false), (.string ⟨#[]⟩), (.string ⟨#[]⟩)] := by kernel_rfl
theorem se_64 : slElem Tryz.prog 64 = some (58, 13, 144) := by kernel_rfl
theorem ze_58 : zeroOf Tryz.prog 58 = some [(.int .i64 0), (.string ⟨#[]⟩), (.string ⟨#[]⟩), (.string ⟨#[]⟩), (.int .i64 0), (.int .i64 0), (.bool false), (.int .i64 0), (.int .i64 0), (.int .i64 0), (.bool false), (.string ⟨#[]⟩), (.string ⟨#[]⟩)] := by kernel_rfl
theorem se_80 : slElem Tryz.prog 80 = some (23, 1, 24) := by kernel_rfl
theorem se_81 : slElem Tryz.prog 81 = some (92, 2, 32) := by kernel_rfl
theorem se_188 : slElem Tryz.prog 188 = some (60, 1, 24) := by kernel_rfl
theorem zo_47 : zeroOf Tryz.prog 47 = some [(.int .i64 0), (.slice none 0 0)] := by kernel_rfl
theorem zo_56 : zeroOf Tryz.prog 56 = some [(.int .i64 0), (.int .i64 0), (.int .i64 0), (.bool false), (.string ⟨#[]⟩), (.string ⟨#[]⟩)] := by kernel_rfl
theorem zo_58 : zeroOf Tryz.prog 58 = some [(.int .i64 0), (.string ⟨#[]⟩), (.string ⟨#[]⟩), (.string ⟨#[]⟩), (.int .i64 0), (.int .i64 0), (.bool false), (.int .i64 0), (.int .i64 0), (.int .i64 0), (.bool false), (.string ⟨#[]⟩), (.string ⟨#[]⟩)] := by kernel_rfl
theorem zo_60 : zeroOf Tryz.prog 60 = some [(.slice none 0 0)] := by kernel_rfl
theorem zo_62 : zeroOf Tryz.prog 62 = some [(.string ⟨#[]⟩), (.int .i64 0), (.int .i64 0), (.slice none 0 0), (.slice none 0 0), (.slice none 0 0)] := by kernel_rfl
theorem zo_136 : zeroOf Tryz.prog 136 = some [(.string ⟨#[]⟩), (.string ⟨#[]⟩)] := by kernel_rfl
theorem zo_165 : zeroOf Tryz.prog 165 = some [.nilFunc] := by kernel_rfl
theorem zo_169 : zeroOf Tryz.prog 169 = some [(.pointer none)] := by kernel_rfl
theorem st_47 : structTab Tryz.prog 47 = some ([(0, 1), (1, 1)], [(.int .i64 0), (.slice none 0 0)]) := by kernel_rfl
theorem st_56 : structTab Tryz.prog 56 = some ([(0, 1), (1, 1), (2, 1), (3, 1), (4, 1), (5, 1)], [(.int .i64 0), (.int .i64 0), (.int .i64 0), (.bool false), (.string ⟨#[]⟩), (.string ⟨#[]⟩)]) := by kernel_rfl
theorem st_58 : structTab Tryz.prog 58 = some ([(0, 1), (1, 1), (2, 1), (3, 1), (4, 1), (5, 1), (6, 1), (7, 6)], [(.int .i64 0), (.string ⟨#[]⟩), (.string ⟨#[]⟩), (.string ⟨#[]⟩), (.int .i64 0), (.int .i64 0), (.bool false), (.int .i64 0), (.int .i64 0), (.int .i64 0), (.bool false), (.string ⟨#[]⟩), (.string ⟨#[]⟩)]) := by kernel_rfl
theorem st_62 : structTab Tryz.prog 62 = some ([(0, 1), (1, 1), (2, 1), (3, 1), (4, 1), (5, 1)], [(.string ⟨#[]⟩), (.int .i64 0), (.int .i64 0), (.slice none 0 0), (.slice none 0 0), (.slice none 0 0)]) := by kernel_rfl
theorem st_83 : structTab Tryz.prog 83 = some ([(0, 1), (1, 1), (2, 1), (3, 1), (4, 1), (5, 1)], [(.slice none 0 0), (.slice none 0 0), (.slice none 0 0), (.int .i64 0), (.bool false), (.int .i64 0)]) := by kernel_rfl
theorem st_92 : structTab Tryz.prog 92 = some ([(0, 1), (1, 1)], [(.int .i64 0), (.slice none 0 0)]) := by kernel_rfl
theorem st_97 : structTab Tryz.prog 97 = some ([(0, 1), (1, 1), (2, 2), (4, 1), (5, 1)], [(.pointer none), (.pointer none), (.int .i64 0), (.slice none 0 0), (.int .i64 0), (.bool false)]) := by kernel_rfl
theorem st_136 : structTab Tryz.prog 136 = some ([(0, 1), (1, 1)], [(.string ⟨#[]⟩), (.string ⟨#[]⟩)]) := by kernel_rfl
theorem st_150 : structTab Tryz.prog 150 = some ([(0, 1)], [(.slice none 0 0)]) := by kernel_rfl
theorem st_173 : structTab Tryz.prog 173 = some ([(0, 1), (1, 1)], [(.pointer none), (.bool false)]) := by kernel_rfl
theorem st_178 : structTab Tryz.prog 178 = some ([(0, 1), (1, 1), (2, 1), (3, 1), (4, 1), (5, 1), (6, 1)], [(.pointer none), (.int .i64 0), (.int .i64 0), (.int .i64 0), (.int .i64 0), (.slice none 0 0), (.bool false)]) := by kernel_rfl
theorem st_207 : structTab Tryz.prog 207 = some ([(0, 1), (1, 1)], [(.slice none 0 0), (.bool false)]) := by kernel_rfl
theorem sz_22_2 : slZeros Tryz.prog 22 2 = some (3, 1, [(.int .i64 0), (.int .i64 0)]) := by kernel_rfl
theorem sz_23_1 : slZeros Tryz.prog 23 1 = some (5, 1, [(.int .u8 0)]) := by kernel_rfl
theorem sz_45_1 : slZeros Tryz.prog 45 1 = some (62, 6, [(.string ⟨#[]⟩), (.int .i64 0), (.int .i64 0), (.slice none 0 0), (.slice none 0 0), (.slice none 0 0)]) := by kernel_rfl
theorem sz_59_1 : slZeros Tryz.prog 59 1 = some (136, 2, [(.string ⟨#[]⟩), (.string ⟨#[]⟩)]) := by kernel_rfl
theorem sz_60_1 : slZeros Tryz.prog 60 1 = some (56, 6, [(.int .i64 0), (.int .i64 0), (.int .i64 0), (.bool false), (.string ⟨#[]⟩), (.string ⟨#[]⟩)]) := by kernel_rfl
theorem sz_64_1 : slZeros Tryz.prog 64 1 = some (58, 13, [(.int .i64 0), (.string ⟨#[]⟩), (.string ⟨#[]⟩), (.string ⟨#[]⟩), (.int .i64 0), (.int .i64 0), (.bool false), (.int .i64 0), (.int .i64 0), (.int .i64 0), (.bool false), (.string ⟨#[]⟩), (.string ⟨#[]⟩)]) := by kernel_rfl
theorem sz_64_2 : slZeros Tryz.prog 64 2 = some (58, 13, [(.int .i64 0), (.string ⟨#[]⟩), (.string ⟨#[]⟩), (.string ⟨#[]⟩), (.int .i64 0), (.int .i64 0), (.bool false), (.int .i64 0), (.int .i64 0), (.int .i64 0), (.bool false), (.string ⟨#[]⟩), (.string ⟨#[]⟩), (.int .i64 0), (.string ⟨#[]⟩), (.string ⟨#[]⟩), (.string ⟨#[]⟩), (.int .i64 0), (.int .i64 0), (.bool false), (.int .i64 0), (.int .i64 0), (.int .i64 0), (.bool false), (.string ⟨#[]⟩), (.string ⟨#[]⟩)]) := by kernel_rfl
theorem sz_80_1 : slZeros Tryz.prog 80 1 = some (23, 1, [(.slice none 0 0)]) := by kernel_rfl
theorem sz_81_1 : slZeros Tryz.prog 81 1 = some (92, 2, [(.int .i64 0), (.slice none 0 0)]) := by kernel_rfl
theorem sz_188_2 : slZeros Tryz.prog 188 2 = some (60, 1, [(.slice none 0 0), (.slice none 0 0)]) := by kernel_rfl
theorem mixed : Tryz.prog.follows .mixedOrders = true := by kernel_rfl
end Go.Proofs.YtkbhldicnamcdaaGreat.L
namespace Go.Proofs.YtkbhldicnamcdaaGreat.L
open Go Go.Proofs
attribute [local irreducible] pv fv pt fz RowF RowO rowP old pure_
set_option maxRecDepth 100000
set_option linter.unusedSimpArgs false
set_option linter.unusedVariables false
theorem message_Right (a b c : Int) (d : Bool) (s t : ByteArray) : Fn Tryz.prog 175 [.agg #[.int .i64 a, .int .i64 b, .int .i64 c, .bool d, .string s, .string t]].toArray [] (fun v post => v = .bool (decide (1 ≤ a) && decide (a ≤ 1099511627776) && decide (-1000 ≤ b) && decide (b ≤ 1000) && decide (0 ≤ c) && decide (c ≤ 1000) && decide ((s.size : Int) ≤ 40) && decide ((t.size : Int) ≤ 100)) ∧ post = []) := by
  refine Fn.enter (N := 43) Tryz.func175 rfl Tryz.ntmps175 tK rfl (fun ρ L => ?_)
  repeat (first | refine K.seq ?_ | refine K.skip ?_ | refine K.block ?_ | refine K.inBlock ?_ | refine K.label ?_)
  refine K.region <| KO.loud rfl (l_box rfl rfl) ?_
  rintro _ _ ⟨b1, rfl, rfl⟩
  refine KO.q rfl (q_assign rfl) <| KO.done ?_
  repeat (first | refine K.seq ?_ | refine K.skip ?_ | refine K.block ?_ | refine K.inBlock ?_ | refine K.label ?_)
  repeat (first | refine K.seq ?_ | refine K.skip ?_ | refine K.block ?_ | refine K.inBlock ?_ | refine K.label ?_)
  refine K.region <| KO.q rfl (q_field fo_56_0 rfl) <| KO.q rfl (q_load1D ck_3 rfl) <| KO.q rfl (q_ge rfl rfl) <| KO.q rfl (q_move rfl) ?_
  refine KO.dsplit 6 rfl (fun g6 => ?_) (fun g6 => ?_)
  · refine KO.q rfl (q_field fo_56_0 rfl) <| KO.q rfl (q_load1D ck_3 rfl) <| KO.q rfl (q_le rfl rfl) <| KO.q rfl (q_pickT rfl rfl) <| KO.q rfl (q_move rfl) ?_
    refine KO.dsplit 11 rfl (fun g11 => ?_) (fun g11 => ?_)
    · refine KO.q rfl (q_field fo_56_1 rfl) <| KO.q rfl (q_load1D ck_3 rfl) <| KO.q rfl (q_ge rfl rfl) <| KO.q rfl (q_pickT rfl rfl) <| KO.q rfl (q_move rfl) ?_
      refine KO.dsplit 16 rfl (fun g16 => ?_) (fun g16 => ?_)
      · refine KO.q rfl (q_field fo_56_1 rfl) <| KO.q rfl (q_load1D ck_3 rfl) <| KO.q rfl (q_le rfl rfl) <| KO.q rfl (q_pickT rfl rfl) <| KO.q rfl (q_move rfl) ?_
        refine KO.dsplit 21 rfl (fun g21 => ?_) (fun g21 => ?_)
        · refine KO.q rfl (q_field fo_56_2 rfl) <| KO.q rfl (q_load1D ck_3 rfl) <| KO.q rfl (q_ge rfl rfl) <| KO.q rfl (q_pickT rfl rfl) <| KO.q rfl (q_move rfl) ?_
          refine KO.dsplit 26 rfl (fun g26 => ?_) (fun g26 => ?_)
          · refine KO.q rfl (q_field fo_56_2 rfl) <| KO.q rfl (q_load1D ck_3 rfl) <| KO.q rfl (q_le rfl rfl) <| KO.q rfl (q_pickT rfl rfl) <| KO.q rfl (q_move rfl) ?_
            refine KO.dsplit 31 rfl (fun g31 => ?_) (fun g31 => ?_)
            · refine KO.q rfl (q_field fo_56_4 rfl) <| KO.q rfl (q_load1D ck_9 rfl) <| KO.q rfl (q_lenS Tryz.underlying9 rfl) <| KO.q rfl (q_le rfl rfl) <| KO.q rfl (q_pickT rfl rfl) <| KO.q rfl (q_move rfl) ?_
              refine KO.dsplit 37 rfl (fun g37 => ?_) (fun g37 => ?_)
              · refine KO.q rfl (q_field fo_56_5 rfl) <| KO.q rfl (q_load1D ck_9 rfl) <| KO.q rfl (q_lenS Tryz.underlying9 rfl) <| KO.q rfl (q_le rfl rfl) <| KO.q rfl (q_pickT rfl rfl) <| KO.q rfl (q_assign rfl) <| KO.done ?_
                repeat (first | refine K.seq ?_ | refine K.skip ?_ | refine K.block ?_ | refine K.inBlock ?_ | refine K.label ?_)
                refine kr1 Tryz.func175 Tryz.results175 rfl (fun w hs => ?_)
                exact ⟨_, [], rfl, ⟨by simp [*], rfl⟩, hs.tail⟩
              · refine KO.skip rfl <| KO.skip rfl <| KO.skip rfl <| KO.skip rfl <| KO.q rfl (q_pickF rfl rfl) <| KO.q rfl (q_assign rfl) <| KO.done ?_
                repeat (first | refine K.seq ?_ | refine K.skip ?_ | refine K.block ?_ | refine K.inBlock ?_ | refine K.label ?_)
                refine kr1 Tryz.func175 Tryz.results175 rfl (fun w hs => ?_)
                exact ⟨_, [], rfl, ⟨by simp [*], rfl⟩, hs.tail⟩
            · refine KO.skip rfl <| KO.skip rfl <| KO.skip rfl <| KO.skip rfl <| KO.q rfl (q_pickF rfl rfl) <| KO.q rfl (q_move rfl) <| KO.skip rfl <| KO.skip rfl <| KO.skip rfl <| KO.skip rfl ?_
              refine KO.q rfl (q_pickF rfl rfl) <| KO.q rfl (q_assign rfl) <| KO.done ?_
              repeat (first | refine K.seq ?_ | refine K.skip ?_ | refine K.block ?_ | refine K.inBlock ?_ | refine K.label ?_)
              refine kr1 Tryz.func175 Tryz.results175 rfl (fun w hs => ?_)
              exact ⟨_, [], rfl, ⟨by simp [*], rfl⟩, hs.tail⟩
          · refine KO.skip rfl <| KO.skip rfl <| KO.skip rfl <| KO.q rfl (q_pickF rfl rfl) <| KO.q rfl (q_move rfl) <| KO.skip rfl <| KO.skip rfl <| KO.skip rfl <| KO.skip rfl <| KO.q rfl (q_pickF rfl rfl) ?_
            refine KO.q rfl (q_move rfl) <| KO.skip rfl <| KO.skip rfl <| KO.skip rfl <| KO.skip rfl <| KO.q rfl (q_pickF rfl rfl) <| KO.q rfl (q_assign rfl) <| KO.done ?_
            repeat (first | refine K.seq ?_ | refine K.skip ?_ | refine K.block ?_ | refine K.inBlock ?_ | refine K.label ?_)
            refine kr1 Tryz.func175 Tryz.results175 rfl (fun w hs => ?_)
            exact ⟨_, [], rfl, ⟨by simp [*], rfl⟩, hs.tail⟩
        · refine KO.skip rfl <| KO.skip rfl <| KO.skip rfl <| KO.q rfl (q_pickF rfl rfl) <| KO.q rfl (q_move rfl) <| KO.skip rfl <| KO.skip rfl <| KO.skip rfl <| KO.q rfl (q_pickF rfl rfl) <| KO.q rfl (q_move rfl) ?_
          refine KO.skip rfl <| KO.skip rfl <| KO.skip rfl <| KO.skip rfl <| KO.q rfl (q_pickF rfl rfl) <| KO.q rfl (q_move rfl) <| KO.skip rfl <| KO.skip rfl <| KO.skip rfl <| KO.skip rfl ?_
          refine KO.q rfl (q_pickF rfl rfl) <| KO.q rfl (q_assign rfl) <| KO.done ?_
          repeat (first | refine K.seq ?_ | refine K.skip ?_ | refine K.block ?_ | refine K.inBlock ?_ | refine K.label ?_)
          refine kr1 Tryz.func175 Tryz.results175 rfl (fun w hs => ?_)
          exact ⟨_, [], rfl, ⟨by simp [*], rfl⟩, hs.tail⟩
      · refine KO.skip rfl <| KO.skip rfl <| KO.skip rfl <| KO.q rfl (q_pickF rfl rfl) <| KO.q rfl (q_move rfl) <| KO.skip rfl <| KO.skip rfl <| KO.skip rfl <| KO.q rfl (q_pickF rfl rfl) <| KO.q rfl (q_move rfl) ?_
        refine KO.skip rfl <| KO.skip rfl <| KO.skip rfl <| KO.q rfl (q_pickF rfl rfl) <| KO.q rfl (q_move rfl) <| KO.skip rfl <| KO.skip rfl <| KO.skip rfl <| KO.skip rfl <| KO.q rfl (q_pickF rfl rfl) ?_
        refine KO.q rfl (q_move rfl) <| KO.skip rfl <| KO.skip rfl <| KO.skip rfl <| KO.skip rfl <| KO.q rfl (q_pickF rfl rfl) <| KO.q rfl (q_assign rfl) <| KO.done ?_
        repeat (first | refine K.seq ?_ | refine K.skip ?_ | refine K.block ?_ | refine K.inBlock ?_ | refine K.label ?_)
        refine kr1 Tryz.func175 Tryz.results175 rfl (fun w hs => ?_)
        exact ⟨_, [], rfl, ⟨by simp [*], rfl⟩, hs.tail⟩
    · refine KO.skip rfl <| KO.skip rfl <| KO.skip rfl <| KO.q rfl (q_pickF rfl rfl) <| KO.q rfl (q_move rfl) <| KO.skip rfl <| KO.skip rfl <| KO.skip rfl <| KO.q rfl (q_pickF rfl rfl) <| KO.q rfl (q_move rfl) ?_
      refine KO.skip rfl <| KO.skip rfl <| KO.skip rfl <| KO.q rfl (q_pickF rfl rfl) <| KO.q rfl (q_move rfl) <| KO.skip rfl <| KO.skip rfl <| KO.skip rfl <| KO.q rfl (q_pickF rfl rfl) <| KO.q rfl (q_move rfl) ?_
      refine KO.skip rfl <| KO.skip rfl <| KO.skip rfl <| KO.skip rfl <| KO.q rfl (q_pickF rfl rfl) <| KO.q rfl (q_move rfl) <| KO.skip rfl <| KO.skip rfl <| KO.skip rfl <| KO.skip rfl ?_
      refine KO.q rfl (q_pickF rfl rfl) <| KO.q rfl (q_assign rfl) <| KO.done ?_
      repeat (first | refine K.seq ?_ | refine K.skip ?_ | refine K.block ?_ | refine K.inBlock ?_ | refine K.label ?_)
      refine kr1 Tryz.func175 Tryz.results175 rfl (fun w hs => ?_)
      exact ⟨_, [], rfl, ⟨by simp [*], rfl⟩, hs.tail⟩
  · refine KO.skip rfl <| KO.skip rfl <| KO.skip rfl <| KO.q rfl (q_pickF rfl rfl) <| KO.q rfl (q_move rfl) <| KO.skip rfl <| KO.skip rfl <| KO.skip rfl <| KO.q rfl (q_pickF rfl rfl) <| KO.q rfl (q_move rfl) ?_
    refine KO.skip rfl <| KO.skip rfl <| KO.skip rfl <| KO.q rfl (q_pickF rfl rfl) <| KO.q rfl (q_move rfl) <| KO.skip rfl <| KO.skip rfl <| KO.skip rfl <| KO.q rfl (q_pickF rfl rfl) <| KO.q rfl (q_move rfl) ?_
    refine KO.skip rfl <| KO.skip rfl <| KO.skip rfl <| KO.q rfl (q_pickF rfl rfl) <| KO.q rfl (q_move rfl) <| KO.skip rfl <| KO.skip rfl <| KO.skip rfl <| KO.skip rfl <| KO.q rfl (q_pickF rfl rfl) ?_
    refine KO.q rfl (q_move rfl) <| KO.skip rfl <| KO.skip rfl <| KO.skip rfl <| KO.skip rfl <| KO.q rfl (q_pickF rfl rfl) <| KO.q rfl (q_assign rfl) <| KO.done ?_
    repeat (first | refine K.seq ?_ | refine K.skip ?_ | refine K.block ?_ | refine K.inBlock ?_ | refine K.label ?_)
    refine kr1 Tryz.func175 Tryz.results175 rfl (fun w hs => ?_)
    exact ⟨_, [], rfl, ⟨by simp [*], rfl⟩, hs.tail⟩
end Go.Proofs.YtkbhldicnamcdaaGreat.L
namespace Go.Proofs.YtkbhldicnamcdaaGreat.L
open Go Go.Proofs
attribute [local irreducible] pv fv pt fz RowF RowO rowP old pure_
set_option maxRecDepth 100000
set_option linter.unusedSimpArgs false
set_option linter.unusedVariables false
abbrev RdL (p : Nat) (q : Option Addr) (cap : Nat) (s : Rd) : List HP := [pv p 207 [.slice q s.bs.length cap, .bool s.f], RowF Kd.u8 q s.bs]
theorem rd_fail (p : Nat) (v u : Value) : Fn Tryz.prog 203 [.pointer (some ⟨p, 0, none⟩)].toArray [pv p 207 [v, u]] (fun r post => r = .tuple #[] ∧ post = [pv p 207 [.slice none 0 0, .bool true]]) := by
  refine Fn.enter (N := 8) Tryz.func203 rfl Tryz.ntmps203 tK rfl (fun ρ L => ?_)
  repeat (first | refine K.seq ?_ | refine K.skip ?_ | refine K.block ?_ | refine K.inBlock ?_ | refine K.label ?_)
  refine K.region <| KO.q rfl (q_move rfl) <| KO.q rfl (q_move rfl) <| KO.q rfl (q_nilCheck rfl) <| KO.q rfl (q_field fo_207_0 rfl) <| KO.loudN rfl (l_store1 ck_23 rfl rfl rfl tP tA) ?_
  rintro _ _ ⟨rfl, rfl⟩
  refine KO.q rfl (q_nilCheck rfl) <| KO.q rfl (q_field fo_207_1 rfl) <| KO.loudN rfl (l_store1 ck_4 rfl rfl rfl tP tA) ?_
  rintro _ _ ⟨rfl, rfl⟩
  refine KO.done ?_
  repeat (first | refine K.seq ?_ | refine K.skip ?_ | refine K.block ?_ | refine K.inBlock ?_ | refine K.label ?_)
  refine K.fin (fn := Tryz.f203) Tryz.func203 (fun a w hk hs => res0 Tryz.results203) (fun w hs => ?_)
  exact ⟨_, [_], rfl, ⟨rfl, rfl⟩, hs⟩
theorem rd_take_failed (p : Nat) (q : Option Addr) (cap : Nat) (s : Rd) (n : Int) (hf : s.f = true) : Fn Tryz.prog 201 [.pointer (some ⟨p, 0, none⟩), .int .i64 n].toArray (RdL p q cap s) (fun r post => r = .tuple #[.slice none 0 0, .bool false] ∧ post = RdL p q cap s) := by
  obtain ⟨bs, f⟩ := s
  obtain rfl : f = true := hf
  refine Fn.enter (N := 40) Tryz.func201 rfl Tryz.ntmps201 tK rfl (fun ρ L => ?_)
  repeat (first | refine K.seq ?_ | refine K.skip ?_ | refine K.block ?_ | refine K.inBlock ?_ | refine K.label ?_)
  refine K.region <| KO.q rfl (q_assign rfl) <| KO.q rfl (q_assign rfl) <| KO.done ?_
  repeat (first | refine K.seq ?_ | refine K.skip ?_ | refine K.block ?_ | refine K.inBlock ?_ | refine K.label ?_)
  repeat (first | refine K.seq ?_ | refine K.skip ?_ | refine K.block ?_ | refine K.inBlock ?_ | refine K.label ?_)
  refine K.region <| KO.q rfl (q_move rfl) <| KO.q rfl (q_pnil Tryz.underlying170 rfl rfl) <| KO.q rfl (q_move rfl) <| KO.q rfl (q_move rfl) <| KO.q rfl (q_nilCheck rfl) <| KO.q rfl (q_field fo_207_1 rfl) <| KO.q rfl (q_load1D ck_4 rfl) <| KO.q rfl (q_pickF rfl rfl) <| KO.done ?_
  repeat (first | refine K.seq ?_ | refine K.skip ?_ | refine K.block ?_ | refine K.inBlock ?_ | refine K.label ?_)
  refine K.yes rfl ?_
  repeat (first | refine K.seq ?_ | refine K.skip ?_ | refine K.block ?_ | refine K.inBlock ?_ | refine K.label ?_)
  refine K.region <| KO.q rfl (q_assign rfl) <| KO.q rfl (q_assign rfl) <| KO.done ?_
  repeat (first | refine K.seq ?_ | refine K.skip ?_ | refine K.block ?_ | refine K.inBlock ?_ | refine K.label ?_)
  refine kr2 Tryz.func201 Tryz.results201 rfl rfl (fun w hs => ?_)
  exact ⟨_, _, rfl, ⟨rfl, rfl⟩, hs⟩
theorem rd_take_short (p : Nat) (q : Option Addr) (cap : Nat) (s : Rd) (n : Int) (hf : s.f = false) (hl : (s.bs.length : Int) < n) : Fn Tryz.prog 201 [.pointer (some ⟨p, 0, none⟩), .int .i64 n].toArray (RdL p q cap s) (fun r post => r = .tuple #[.slice none 0 0, .bool false] ∧ post = RdL p none 0 ⟨[], true⟩) := by
  obtain ⟨bs, f⟩ := s
  obtain rfl : f = false := hf
  replace hl : (bs.length : Int) < n := hl
  refine Fn.enter (N := 40) Tryz.func201 rfl Tryz.ntmps201 tK rfl (fun ρ L => ?_)
  repeat (first | refine K.seq ?_ | refine K.skip ?_ | refine K.block ?_ | refine K.inBlock ?_ | refine K.label ?_)
  refine K.region <| KO.q rfl (q_assign rfl) <| KO.q rfl (q_assign rfl) <| KO.done ?_
  repeat (first | refine K.seq ?_ | refine K.skip ?_ | refine K.block ?_ | refine K.inBlock ?_ | refine K.label ?_)
  repeat (first | refine K.seq ?_ | refine K.skip ?_ | refine K.block ?_ | refine K.inBlock ?_ | refine K.label ?_)
  refine K.region <| KO.q rfl (q_move rfl) <| KO.q rfl (q_pnil Tryz.underlying170 rfl rfl) <| KO.q rfl (q_move rfl) <| KO.q rfl (q_move rfl) <| KO.q rfl (q_nilCheck rfl) <| KO.q rfl (q_field fo_207_1 rfl) <| KO.q rfl (q_load1D ck_4 rfl) <| KO.q rfl (q_pickF rfl rfl) <| KO.done ?_
  repeat (first | refine K.seq ?_ | refine K.skip ?_ | refine K.block ?_ | refine K.inBlock ?_ | refine K.label ?_)
  refine K.no rfl ?_
  repeat (first | refine K.seq ?_ | refine K.skip ?_ | refine K.block ?_ | refine K.inBlock ?_ | refine K.label ?_)
  refine K.region <| KO.q rfl (q_move rfl) <| KO.q rfl (q_nilCheck rfl) <| KO.q rfl (q_field fo_207_0 rfl) <| KO.q rfl (q_load1D ck_23 rfl) <| KO.q rfl (q_len Tryz.underlying23 rfl) <| KO.q rfl (q_move rfl) <| KO.q rfl (q_lt rfl rfl) <| KO.done ?_
  repeat (first | refine K.seq ?_ | refine K.skip ?_ | refine K.block ?_ | refine K.inBlock ?_ | refine K.label ?_)
  refine K.dite rfl (fun _ => ?_) (fun h => absurd hl h)
  repeat (first | refine K.seq ?_ | refine K.skip ?_ | refine K.block ?_ | refine K.inBlock ?_ | refine K.label ?_)
  refine K.region <| KO.q rfl (q_move rfl) <| KO.loud rfl (OpL.callE rfl (rd_fail p _ _)) ?_
  rintro _ _ ⟨_, ⟨rfl, rfl⟩, rfl⟩
  refine KO.done ?_
  repeat (first | refine K.seq ?_ | refine K.skip ?_ | refine K.block ?_ | refine K.inBlock ?_ | refine K.label ?_)
  repeat (first | refine K.seq ?_ | refine K.skip ?_ | refine K.block ?_ | refine K.inBlock ?_ | refine K.label ?_)
  refine K.region <| KO.q rfl (q_assign rfl) <| KO.q rfl (q_assign rfl) <| KO.done ?_
  repeat (first | refine K.seq ?_ | refine K.skip ?_ | refine K.block ?_ | refine K.inBlock ?_ | refine K.label ?_)
  refine kr2 Tryz.func201 Tryz.results201 rfl rfl (fun w hs => ?_)
  exact ⟨_, RdL p none 0 ⟨[], true⟩, rfl, ⟨rfl, rfl⟩, (rowF_nil (k := Kd.u8) none hs).fitD⟩
theorem rd_take_ok (p : Nat) (q : Option Addr) (cap : Nat) (s : Rd) (n : Int) (hf : s.f = false) (h0 : 0 ≤ n) (hl : n ≤ s.bs.length) (hc : s.bs.length ≤ cap) : Fn Tryz.prog 201 [.pointer (some ⟨p, 0, none⟩), .int .i64 n].toArray (RdL p q cap s)
    (fun r post => r = .tuple #[.slice q n.toNat cap, .bool true] ∧ post = RowF Kd.u8 q (s.bs.take n.toNat) :: RdL p (cutAddr q cap n.toNat 1) (cap - n.toNat) ⟨s.bs.drop n.toNat, false⟩) := by
  obtain ⟨bs, f⟩ := s
  obtain rfl : f = false := hf
  replace hl : n ≤ bs.length := hl
  replace hc : bs.length ≤ cap := hc
  refine Fn.enter (N := 40) Tryz.func201 rfl Tryz.ntmps201 tK rfl (fun ρ L => ?_)
  repeat (first | refine K.seq ?_ | refine K.skip ?_ | refine K.block ?_ | refine K.inBlock ?_ | refine K.label ?_)
  refine K.region <| KO.q rfl (q_assign rfl) <| KO.q rfl (q_assign rfl) <| KO.done ?_
  repeat (first | refine K.seq ?_ | refine K.skip ?_ | refine K.block ?_ | refine K.inBlock ?_ | refine K.label ?_)
  repeat (first | refine K.seq ?_ | refine K.skip ?_ | refine K.block ?_ | refine K.inBlock ?_ | refine K.label ?_)
  refine K.region <| KO.q rfl (q_move rfl) <| KO.q rfl (q_pnil Tryz.underlying170 rfl rfl) <| KO.q rfl (q_move rfl) <| KO.q rfl (q_move rfl) <| KO.q rfl (q_nilCheck rfl) <| KO.q rfl (q_field fo_207_1 rfl) <| KO.q rfl (q_load1D ck_4 rfl) <| KO.q rfl (q_pickF rfl rfl) <| KO.done ?_
  repeat (first | refine K.seq ?_ | refine K.skip ?_ | refine K.block ?_ | refine K.inBlock ?_ | refine K.label ?_)
  refine K.no rfl ?_
  repeat (first | refine K.seq ?_ | refine K.skip ?_ | refine K.block ?_ | refine K.inBlock ?_ | refine K.label ?_)
  refine K.region <| KO.q rfl (q_move rfl) <| KO.q rfl (q_nilCheck rfl) <| KO.q rfl (q_field fo_207_0 rfl) <| KO.q rfl (q_load1D ck_23 rfl) <| KO.q rfl (q_len Tryz.underlying23 rfl) <| KO.q rfl (q_move rfl) <| KO.q rfl (q_lt rfl rfl) <| KO.done ?_
  repeat (first | refine K.seq ?_ | refine K.skip ?_ | refine K.block ?_ | refine K.inBlock ?_ | refine K.label ?_)
  refine K.dite rfl (fun h => absurd h (by show ¬ (bs.length : Int) < n; omega)) (fun _ => ?_)
  repeat (first | refine K.seq ?_ | refine K.skip ?_ | refine K.block ?_ | refine K.inBlock ?_ | refine K.label ?_)
  refine K.st (fun w h => rowF_take n.toNat (List.Mem.tail _ (List.Mem.head _)) h) <| K.st (fun w h => rowF_cut (cap := cap) n.toNat hc (List.Mem.tail _ (List.Mem.tail _ (List.Mem.head _))) h) ?_
  repeat (first | refine K.seq ?_ | refine K.skip ?_ | refine K.block ?_ | refine K.inBlock ?_ | refine K.label ?_)
  refine K.region <| KO.q rfl (q_move rfl) <| KO.q rfl (q_nilCheck rfl) <| KO.q rfl (q_field fo_207_0 rfl) <| KO.q rfl (q_load1D ck_23 rfl) <| KO.q rfl (q_move rfl) <| KO.q rfl (q_cutH se_23 rfl rfl tN tN) <| KO.q rfl (q_assign rfl) <| KO.done ?_
  repeat (first | refine K.seq ?_ | refine K.skip ?_ | refine K.block ?_ | refine K.inBlock ?_ | refine K.label ?_)
  repeat (first | refine K.seq ?_ | refine K.skip ?_ | refine K.block ?_ | refine K.inBlock ?_ | refine K.label ?_)
  refine K.region <| KO.q rfl (q_move rfl) <| KO.q rfl (q_move rfl) <| KO.q rfl (q_nilCheck rfl) <| KO.q rfl (q_field fo_207_0 rfl) <| KO.q rfl (q_load1D ck_23 rfl) <| KO.q rfl (q_move rfl) <| KO.q rfl (q_cutL se_23 rfl rfl tN tN tN) <| KO.q rfl (q_nilCheck rfl) <| KO.q rfl (q_field fo_207_0 rfl) ?_
  refine KO.loudN rfl (l_store1 ck_23 rfl rfl rfl tP tA) ?_
  rintro _ _ ⟨rfl, rfl⟩
  refine KO.done ?_
  repeat (first | refine K.seq ?_ | refine K.skip ?_ | refine K.block ?_ | refine K.inBlock ?_ | refine K.label ?_)
  repeat (first | refine K.seq ?_ | refine K.skip ?_ | refine K.block ?_ | refine K.inBlock ?_ | refine K.label ?_)
  refine K.region <| KO.q rfl (q_move rfl) <| KO.q rfl (q_assign rfl) <| KO.q rfl (q_assign rfl) <| KO.done ?_
  repeat (first | refine K.seq ?_ | refine K.skip ?_ | refine K.block ?_ | refine K.inBlock ?_ | refine K.label ?_)
  refine kr2 Tryz.func201 Tryz.results201 rfl rfl (fun w hs => ?_)
  have e : (Rd.mk bs false).bs.length - n.toNat = (bs.drop n.toNat).length := by simp
  rw [e] at hs
  refine ⟨_, RowF Kd.u8 q (bs.take n.toNat) :: RdL p (cutAddr q cap n.toNat 1) (cap - n.toNat) ⟨bs.drop n.toNat, false⟩, rfl, ⟨rfl, rfl⟩, ?_⟩
  exact hs.fitD
end Go.Proofs.YtkbhldicnamcdaaGreat.L
namespace Go.Proofs.YtkbhldicnamcdaaGreat.L
open Go Go.Proofs
attribute [local irreducible] pv fv pt fz RowF RowO rowP old pure_
set_option maxRecDepth 100000
set_option linter.unusedSimpArgs false
set_option linter.unusedVariables false
theorem Rd.take_failed {s : Rd} {n : Nat} (h : s.f = true) : s.take n = (none, s) := by simp [Rd.take, h]
theorem Rd.take_short {s : Rd} {n : Nat} (h : s.f = false) (hl : s.bs.length < n) : s.take n = (none, ⟨[], true⟩) := by simp [Rd.take, h, hl]
theorem Rd.take_ok {s : Rd} {n : Nat} (h : s.f = false) (hl : n ≤ s.bs.length) : s.take n = (some (s.bs.take n), ⟨s.bs.drop n, false⟩) := by
  have : ¬ s.bs.length < n := by omega
  simp [Rd.take, h, this]
theorem rd_number (p : Nat) (q : Option Addr) (cap : Nat) (s : Rd) (n : Int) (h0 : 0 ≤ n) (h8 : n ≤ 8) (hc : s.bs.length ≤ cap) : Fn Tryz.prog 163 [.pointer (some ⟨p, 0, none⟩), .int .i64 n].toArray (RdL p q cap s)
    (fun r post => ∃ q' cap', r = .int .u64 (s.num n.toNat).1 ∧ post = RdL p q' cap' (s.num n.toNat).2 ∧ (s.num n.toNat).2.bs.length ≤ cap') := by
  by_cases hf : s.f = true
  · refine Fn.enter (N := 34) Tryz.func163 rfl Tryz.ntmps163 tK rfl (fun ρ L => ?_)
    repeat (first | refine K.seq ?_ | refine K.skip ?_ | refine K.block ?_ | refine K.inBlock ?_ | refine K.label ?_)
    refine K.region <| KO.q rfl (q_assign rfl) <| KO.done ?_
    repeat (first | refine K.seq ?_ | refine K.skip ?_ | refine K.block ?_ | refine K.inBlock ?_ | refine K.label ?_)
    repeat (first | refine K.seq ?_ | refine K.skip ?_ | refine K.block ?_ | refine K.inBlock ?_ | refine K.label ?_)
    refine K.region <| KO.q rfl (q_move rfl) <| KO.q rfl (q_move rfl) <| KO.loud rfl (OpL.callE rfl (rd_take_failed p q cap s n hf)) ?_
    rintro _ _ ⟨_, ⟨rfl, rfl⟩, rfl⟩
    refine KO.q rfl (q_move rfl) <| KO.q rfl (q_extract rfl rfl) <| KO.q rfl (q_extract rfl rfl) <| KO.q rfl (q_assign rfl) <| KO.q rfl (q_assign rfl) <| KO.done ?_
    repeat (first | refine K.seq ?_ | refine K.skip ?_ | refine K.block ?_ | refine K.inBlock ?_ | refine K.label ?_)
    repeat (first | refine K.seq ?_ | refine K.skip ?_ | refine K.block ?_ | refine K.inBlock ?_ | refine K.label ?_)
    refine K.region <| KO.q rfl (q_move rfl) <| KO.q rfl (q_not rfl) <| KO.done ?_
    repeat (first | refine K.seq ?_ | refine K.skip ?_ | refine K.block ?_ | refine K.inBlock ?_ | refine K.label ?_)
    refine K.yes rfl ?_
    repeat (first | refine K.seq ?_ | refine K.skip ?_ | refine K.block ?_ | refine K.inBlock ?_ | refine K.label ?_)
    refine K.region <| KO.q rfl (q_assign rfl) <| KO.done ?_
    repeat (first | refine K.seq ?_ | refine K.skip ?_ | refine K.block ?_ | refine K.inBlock ?_ | refine K.label ?_)
    refine kr1 Tryz.func163 Tryz.results163 rfl (fun w hs => ?_)
    have e : s.num n.toNat = (0, s) := by simp [Rd.num, Rd.take_failed hf]
    exact ⟨_, RdL p q cap s, rfl, ⟨q, cap, by rw [e], by rw [e], by rw [e]; exact hc⟩, hs.fitD⟩
  · replace hf : s.f = false := by simpa using hf
    by_cases hl : (s.bs.length : Int) < n
    · refine Fn.enter (N := 34) Tryz.func163 rfl Tryz.ntmps163 tK rfl (fun ρ L => ?_)
      repeat (first | refine K.seq ?_ | refine K.skip ?_ | refine K.block ?_ | refine K.inBlock ?_ | refine K.label ?_)
      refine K.region <| KO.q rfl (q_assign rfl) <| KO.done ?_
      repeat (first | refine K.seq ?_ | refine K.skip ?_ | refine K.block ?_ | refine K.inBlock ?_ | refine K.label ?_)
      repeat (first | refine K.seq ?_ | refine K.skip ?_ | refine K.block ?_ | refine K.inBlock ?_ | refine K.label ?_)
      refine K.region <| KO.q rfl (q_move rfl) <| KO.q rfl (q_move rfl) <| KO.loud rfl (OpL.callE rfl (rd_take_short p q cap s n hf hl)) ?_
      rintro _ _ ⟨_, ⟨rfl, rfl⟩, rfl⟩
      refine KO.q rfl (q_move rfl) <| KO.q rfl (q_extract rfl rfl) <| KO.q rfl (q_extract rfl rfl) <| KO.q rfl (q_assign rfl) <| KO.q rfl (q_assign rfl) <| KO.done ?_
      repeat (first | refine K.seq ?_ | refine K.skip ?_ | refine K.block ?_ | refine K.inBlock ?_ | refine K.label ?_)
      repeat (first | refine K.seq ?_ | refine K.skip ?_ | refine K.block ?_ | refine K.inBlock ?_ | refine K.label ?_)
      refine K.region <| KO.q rfl (q_move rfl) <| KO.q rfl (q_not rfl) <| KO.done ?_
      repeat (first | refine K.seq ?_ | refine K.skip ?_ | refine K.block ?_ | refine K.inBlock ?_ | refine K.label ?_)
      refine K.yes rfl ?_
      repeat (first | refine K.seq ?_ | refine K.skip ?_ | refine K.block ?_ | refine K.inBlock ?_ | refine K.label ?_)
      refine K.region <| KO.q rfl (q_assign rfl) <| KO.done ?_
      repeat (first | refine K.seq ?_ | refine K.skip ?_ | refine K.block ?_ | refine K.inBlock ?_ | refine K.label ?_)
      refine kr1 Tryz.func163 Tryz.results163 rfl (fun w hs => ?_)
      have e : s.num n.toNat = (0, ⟨[], true⟩) := by simp [Rd.num, Rd.take_short hf (show s.bs.length < n.toNat by omega)]
      exact ⟨_, RdL p none 0 ⟨[], true⟩, rfl, ⟨none, 0, by rw [e], by rw [e], by rw [e]; exact Nat.le_refl _⟩, hs.fitD⟩
    · refine Fn.enter (N := 34) Tryz.func163 rfl Tryz.ntmps163 tK rfl (fun ρ L => ?_)
      repeat (first | refine K.seq ?_ | refine K.skip ?_ | refine K.block ?_ | refine K.inBlock ?_ | refine K.label ?_)
      refine K.region <| KO.q rfl (q_assign rfl) <| KO.done ?_
      repeat (first | refine K.seq ?_ | refine K.skip ?_ | refine K.block ?_ | refine K.inBlock ?_ | refine K.label ?_)
      repeat (first | refine K.seq ?_ | refine K.skip ?_ | refine K.block ?_ | refine K.inBlock ?_ | refine K.label ?_)
      refine K.region <| KO.q rfl (q_move rfl) <| KO.q rfl (q_move rfl) <| KO.loud rfl (OpL.callE rfl (rd_take_ok p q cap s n hf h0 tO hc)) ?_
      rintro _ _ ⟨_, ⟨rfl, rfl⟩, rfl⟩
      refine KO.q rfl (q_move rfl) <| KO.q rfl (q_extract rfl rfl) <| KO.q rfl (q_extract rfl rfl) <| KO.q rfl (q_assign rfl) <| KO.q rfl (q_assign rfl) <| KO.done ?_
      repeat (first | refine K.seq ?_ | refine K.skip ?_ | refine K.block ?_ | refine K.inBlock ?_ | refine K.label ?_)
      repeat (first | refine K.seq ?_ | refine K.skip ?_ | refine K.block ?_ | refine K.inBlock ?_ | refine K.label ?_)
      refine K.region <| KO.q rfl (q_move rfl) <| KO.q rfl (q_not rfl) <| KO.done ?_
      repeat (first | refine K.seq ?_ | refine K.skip ?_ | refine K.block ?_ | refine K.inBlock ?_ | refine K.label ?_)
      refine K.no rfl ?_
      repeat (first | refine K.seq ?_ | refine K.skip ?_ | refine K.block ?_ | refine K.inBlock ?_ | refine K.label ?_)
      refine K.region <| KO.q rfl (q_assign rfl) <| KO.done ?_
      repeat (first | refine K.seq ?_ | refine K.skip ?_ | refine K.block ?_ | refine K.inBlock ?_ | refine K.label ?_)
      repeat (first | refine K.seq ?_ | refine K.skip ?_ | refine K.block ?_ | refine K.inBlock ?_ | refine K.label ?_)
      refine K.region <| KO.q rfl (q_move rfl) <| KO.q rfl (q_len Tryz.underlying23 rfl) <| KO.q rfl (q_move rfl) <| KO.done ?_
      repeat (first | refine K.seq ?_ | refine K.skip ?_ | refine K.block ?_ | refine K.inBlock ?_ | refine K.label ?_)
      have hlen : (s.bs.take n.toNat).length = n.toNat := by rw [List.length_take]; omega
      generalize hT : s.bs.take n.toNat = T at hlen ⊢
      refine K.rloop (ι := { i : Nat // i ≤ n.toNat }) (fun i => [(20, .int .i64 (i.1 : Int)), (7, .int .u64 (ofLe (T.take i.1))), (18, .slice q n.toNat cap), (19, .int .i64 (n.toNat : Int))]) (fun i => n.toNat - i.1) ⟨0, Nat.zero_le _⟩ tS (fun i ih => ?_)
      obtain ⟨i, hi⟩ := i
      repeat (first | refine K.seq ?_ | refine K.skip ?_ | refine K.block ?_ | refine K.inBlock ?_ | refine K.label ?_)
      refine K.region <| KO.q rfl (q_lt rfl rfl) <| KO.done ?_
      repeat (first | refine K.seq ?_ | refine K.skip ?_ | refine K.block ?_ | refine K.inBlock ?_ | refine K.label ?_)
      refine K.dite rfl (fun h => ?_) (fun h => ?_)
      · repeat (first | refine K.seq ?_ | refine K.skip ?_ | refine K.block ?_ | refine K.inBlock ?_ | refine K.label ?_)
        replace h : (i : Int) < (n.toNat : Int) := h
        have hi' : i < n.toNat := by omega
        obtain ⟨c, hx⟩ : ∃ c, T[i]? = some c := ⟨T[i]'tO, List.getElem?_eq_getElem _⟩
        have hb := c.toNat_lt
        refine K.fact (rowF_addr (List.Mem.head _) (by intro e; rw [e] at hx; simp at hx)) (fun hq => ?_)
        obtain ⟨bq, oq, rfl⟩ := hq
        repeat (first | refine K.seq ?_ | refine K.skip ?_ | refine K.block ?_ | refine K.inBlock ?_ | refine K.label ?_)
        refine K.region <| KO.q rfl (q_move rfl) <| KO.q rfl (q_index se_23 rfl rfl tN tN) <| KO.q rfl (q_load1D ck_5 rfl) <| KO.q rfl (q_assign rfl) <| KO.q rfl (q_assign rfl) <| KO.done ?_
        repeat (first | refine K.seq ?_ | refine K.skip ?_ | refine K.block ?_ | refine K.inBlock ?_ | refine K.label ?_)
        repeat (first | refine K.seq ?_ | refine K.skip ?_ | refine K.block ?_ | refine K.inBlock ?_ | refine K.label ?_)
        refine K.region <| KO.q rfl (q_move rfl) <| KO.q rfl (q_move rfl) ?_
        refine KO.q rfl (q_conv Tryz.underlying89 (by rw [Tryz.underlying5]; rfl) rfl (by first | rfl | exact wrap_i64 tO tO | exact wrap_u64 tO tO | exact wrap_u8 tO tO)) ?_
        refine KO.q rfl (q_move rfl) <| KO.q rfl (q_mul rfl rfl tN tN) <| KO.q rfl (q_shl rfl rfl tN) <| KO.q rfl (q_or rfl rfl) <| KO.q rfl (q_assign rfl) <| KO.done ?_
        repeat (first | refine K.seq ?_ | refine K.skip ?_ | refine K.block ?_ | refine K.inBlock ?_ | refine K.label ?_)
        repeat (first | refine K.seq ?_ | refine K.skip ?_ | refine K.block ?_ | refine K.inBlock ?_ | refine K.label ?_)
        refine K.region <| KO.q rfl (q_add rfl rfl tN tN) <| KO.q rfl (q_move rfl) <| KO.done ?_
        repeat (first | refine K.seq ?_ | refine K.skip ?_ | refine K.block ?_ | refine K.inBlock ?_ | refine K.label ?_)
        have hlt : ofLe (T.take i) < 256 ^ i := by
          have := ofLe_lt (T.take i)
          rwa [List.length_take, Nat.min_eq_left tO] at this
        rw [or_shl (ofLe (T.take i)) c i tO (ofLe_nonneg _) hlt]
        have hs' : ofLe (T.take i) + (c.toNat : Int) * 256 ^ i = ofLe (T.take (i + 1)) := by
          rw [List.take_add_one, hx, Option.toList_some, ofLe_snoc, List.length_take, Nat.min_eq_left tO]
        rw [hs']
        exact K.subE tS (ih ⟨i + 1, by omega⟩ (by show n.toNat - (i + 1) < n.toNat - i; omega))
      · replace h : ¬ (i : Int) < (n.toNat : Int) := h
        have hi' : i = n.toNat := by omega
        subst hi'
        refine K.exit rfl ?_
        repeat (first | refine K.seq ?_ | refine K.skip ?_ | refine K.block ?_ | refine K.inBlock ?_ | refine K.label ?_)
        refine K.region <| KO.q rfl (q_move rfl) <| KO.q rfl (q_assign rfl) <| KO.done ?_
        repeat (first | refine K.seq ?_ | refine K.skip ?_ | refine K.block ?_ | refine K.inBlock ?_ | refine K.label ?_)
        refine kr1 Tryz.func163 Tryz.results163 rfl (fun w hs => ?_)
        have e : s.num n.toNat = (ofLe T, ⟨s.bs.drop n.toNat, false⟩) := by
          simp [Rd.num, Rd.take_ok hf (show n.toNat ≤ s.bs.length by omega), hT]
        have e2 : T.take n.toNat = T := List.take_of_length_le tO
        exact ⟨_, RdL p (cutAddr q cap n.toNat 1) (cap - n.toNat) ⟨s.bs.drop n.toNat, false⟩, rfl, ⟨_, _, by rw [e, e2], by rw [e], by rw [e]; simp; omega⟩, hs.fitD⟩
end Go.Proofs.YtkbhldicnamcdaaGreat.L
namespace Go.Proofs.YtkbhldicnamcdaaGreat.L
open Go Go.Proofs
attribute [local irreducible] pv fv pt fz RowF RowO rowP old pure_
set_option maxRecDepth 100000
set_option linter.unusedSimpArgs false
set_option linter.unusedVariables false
theorem Rd.num_ge (s : Rd) (n : Nat) : 0 ≤ (s.num n).1 := by
  unfold Rd.num
  split
  · exact Int.le_refl _
  · exact ofLe_nonneg _
theorem Rd.num_lt (s : Rd) (n : Nat) : (s.num n).1 < 256 ^ n := by
  unfold Rd.num
  have hp : (0 : Int) < 256 ^ n := Int.pow_pos tD
  split
  · exact hp
  · rename_i l s' h
    have hl : l.length = n := by
      unfold Rd.take at h
      split at h
      · cases h
      · split at h
        · cases h
        · simp at h; rw [← h.1, List.length_take]; omega
    have := ofLe_lt l
    rwa [hl] at this
theorem wrap_i64_i64 (n : Int) : IntKind.i64.wrap n = i64 n := IntKind.wrap_i64 n
theorem rd_Int (p : Nat) (q : Option Addr) (cap : Nat) (s : Rd) (hc : s.bs.length ≤ cap) : Fn Tryz.prog 124 [.pointer (some ⟨p, 0, none⟩)].toArray (RdL p q cap s)
    (fun r post => ∃ q' cap', r = .int .i64 s.int.1 ∧ post = RdL p q' cap' s.int.2 ∧ s.int.2.bs.length ≤ cap') := by
  refine Fn.enter (N := 6) Tryz.func124 rfl Tryz.ntmps124 tK rfl (fun ρ L => ?_)
  repeat (first | refine K.seq ?_ | refine K.skip ?_ | refine K.block ?_ | refine K.inBlock ?_ | refine K.label ?_)
  refine K.region <| KO.q rfl (q_assign rfl) <| KO.done ?_
  repeat (first | refine K.seq ?_ | refine K.skip ?_ | refine K.block ?_ | refine K.inBlock ?_ | refine K.label ?_)
  repeat (first | refine K.seq ?_ | refine K.skip ?_ | refine K.block ?_ | refine K.inBlock ?_ | refine K.label ?_)
  refine K.region <| KO.q rfl (q_move rfl) <| KO.loud rfl (OpL.callE rfl (rd_number p q cap s 8 tD tD hc)) ?_
  rintro _ _ ⟨_, ⟨q', cap', rfl, rfl, hc'⟩, rfl⟩
  refine KO.q rfl (q_convw Tryz.underlying3 (by rw [Tryz.underlying89]; rfl) rfl) <| KO.q rfl (q_assign rfl) <| KO.done ?_
  repeat (first | refine K.seq ?_ | refine K.skip ?_ | refine K.block ?_ | refine K.inBlock ?_ | refine K.label ?_)
  refine kr1 Tryz.func124 Tryz.results124 rfl (fun w hs => ?_)
  rw [wrap_i64_i64]
  exact ⟨_, RdL p q' cap' s.int.2, rfl, ⟨q', cap', rfl, rfl, hc'⟩, hs.fitD⟩
theorem rd_Text (p : Nat) (q : Option Addr) (cap : Nat) (s : Rd) (hc : s.bs.length ≤ cap) : Fn Tryz.prog 160 [.pointer (some ⟨p, 0, none⟩)].toArray (RdL p q cap s)
    (fun r post => ∃ q' cap', r = .string s.text.1 ∧ post = RdL p q' cap' s.text.2 ∧ s.text.2.bs.length ≤ cap') := by
  have g0 := s.num_ge 2
  have g1 := s.num_lt 2
  refine Fn.enter (N := 17) Tryz.func160 rfl Tryz.ntmps160 tK rfl (fun ρ L => ?_)
  repeat (first | refine K.seq ?_ | refine K.skip ?_ | refine K.block ?_ | refine K.inBlock ?_ | refine K.label ?_)
  refine K.region <| KO.q rfl (q_assign rfl) <| KO.done ?_
  repeat (first | refine K.seq ?_ | refine K.skip ?_ | refine K.block ?_ | refine K.inBlock ?_ | refine K.label ?_)
  repeat (first | refine K.seq ?_ | refine K.skip ?_ | refine K.block ?_ | refine K.inBlock ?_ | refine K.label ?_)
  refine K.region <| KO.q rfl (q_move rfl) <| KO.q rfl (q_move rfl) <| KO.loud rfl (OpL.callE rfl (rd_number p q cap s 2 tD tD hc)) ?_
  rintro _ _ ⟨_, ⟨q', cap', rfl, rfl, hc'⟩, rfl⟩
  have e2 : s.num (2 : Int).toNat = s.num 2 := rfl
  rw [e2] at hc' ⊢
  generalize hN : (s.num 2).1 = N at g0 g1 ⊢
  generalize hS : (s.num 2).2 = S at hc' ⊢
  have g2 : N < 65536 := g1
  clear g1
  refine KO.q rfl (q_conv Tryz.underlying3 (by rw [Tryz.underlying89]; rfl) rfl (by first | rfl | exact wrap_i64 tO tO | exact wrap_u64 tO tO | exact wrap_u8 tO tO)) ?_
  by_cases hf : S.f = true
  · have e : s.text = (⟨#[]⟩, S) := by simp [Rd.text, hN, hS, Rd.take_failed hf]
    refine KO.loud rfl (OpL.callE rfl (rd_take_failed p q' cap' S N hf)) ?_
    rintro _ _ ⟨_, ⟨rfl, rfl⟩, rfl⟩
    refine KO.q rfl (q_move rfl) <| KO.q rfl (q_extract rfl rfl) <| KO.q rfl (q_extract rfl rfl) <| KO.q rfl (q_assign rfl) <| KO.q rfl (q_assign rfl) <| KO.done ?_
    repeat (first | refine K.seq ?_ | refine K.skip ?_ | refine K.block ?_ | refine K.inBlock ?_ | refine K.label ?_)
    repeat (first | refine K.seq ?_ | refine K.skip ?_ | refine K.block ?_ | refine K.inBlock ?_ | refine K.label ?_)
    refine K.region <| KO.q rfl (q_move rfl) <| KO.q rfl (q_not rfl) <| KO.done ?_
    repeat (first | refine K.seq ?_ | refine K.skip ?_ | refine K.block ?_ | refine K.inBlock ?_ | refine K.label ?_)
    refine K.yes rfl ?_
    repeat (first | refine K.seq ?_ | refine K.skip ?_ | refine K.block ?_ | refine K.inBlock ?_ | refine K.label ?_)
    refine K.region <| KO.q rfl (q_assign rfl) <| KO.done ?_
    repeat (first | refine K.seq ?_ | refine K.skip ?_ | refine K.block ?_ | refine K.inBlock ?_ | refine K.label ?_)
    refine kr1 Tryz.func160 Tryz.results160 rfl (fun w hs => ?_)
    exact ⟨_, RdL p q' cap' S, rfl, ⟨q', cap', by rw [e], by rw [e], by rw [e]; exact hc'⟩, hs.fitD⟩
  · replace hf : S.f = false := by simpa using hf
    by_cases hl : (S.bs.length : Int) < N
    · have e : s.text = (⟨#[]⟩, ⟨[], true⟩) := by simp [Rd.text, hN, hS, Rd.take_short hf (show S.bs.length < N.toNat by omega)]
      refine KO.loud rfl (OpL.callE rfl (rd_take_short p q' cap' S N hf hl)) ?_
      rintro _ _ ⟨_, ⟨rfl, rfl⟩, rfl⟩
      refine KO.q rfl (q_move rfl) <| KO.q rfl (q_extract rfl rfl) <| KO.q rfl (q_extract rfl rfl) <| KO.q rfl (q_assign rfl) <| KO.q rfl (q_assign rfl) <| KO.done ?_
      repeat (first | refine K.seq ?_ | refine K.skip ?_ | refine K.block ?_ | refine K.inBlock ?_ | refine K.label ?_)
      repeat (first | refine K.seq ?_ | refine K.skip ?_ | refine K.block ?_ | refine K.inBlock ?_ | refine K.label ?_)
      refine K.region <| KO.q rfl (q_move rfl) <| KO.q rfl (q_not rfl) <| KO.done ?_
      repeat (first | refine K.seq ?_ | refine K.skip ?_ | refine K.block ?_ | refine K.inBlock ?_ | refine K.label ?_)
      refine K.yes rfl ?_
      repeat (first | refine K.seq ?_ | refine K.skip ?_ | refine K.block ?_ | refine K.inBlock ?_ | refine K.label ?_)
      refine K.region <| KO.q rfl (q_assign rfl) <| KO.done ?_
      repeat (first | refine K.seq ?_ | refine K.skip ?_ | refine K.block ?_ | refine K.inBlock ?_ | refine K.label ?_)
      refine kr1 Tryz.func160 Tryz.results160 rfl (fun w hs => ?_)
      exact ⟨_, RdL p none 0 ⟨[], true⟩, rfl, ⟨none, 0, by rw [e], by rw [e], by rw [e]; exact Nat.le_refl _⟩, hs.fitD⟩
    · have e : s.text = (⟨(S.bs.take N.toNat).toArray⟩, ⟨S.bs.drop N.toNat, false⟩) := by simp [Rd.text, hN, hS, Rd.take_ok hf (show N.toNat ≤ S.bs.length by omega)]
      have hlen : N.toNat = (S.bs.take N.toNat).length := by rw [List.length_take]; omega
      refine KO.loud rfl (OpL.callE rfl (rd_take_ok p q' cap' S N hf g0 tO hc')) ?_
      rintro _ _ ⟨_, ⟨rfl, rfl⟩, rfl⟩
      refine KO.q rfl (q_move rfl) <| KO.q rfl (q_extract rfl rfl) <| KO.q rfl (q_extract rfl rfl) <| KO.q rfl (q_assign rfl) <| KO.q rfl (q_assign rfl) <| KO.done ?_
      repeat (first | refine K.seq ?_ | refine K.skip ?_ | refine K.block ?_ | refine K.inBlock ?_ | refine K.label ?_)
      repeat (first | refine K.seq ?_ | refine K.skip ?_ | refine K.block ?_ | refine K.inBlock ?_ | refine K.label ?_)
      refine K.region <| KO.q rfl (q_move rfl) <| KO.q rfl (q_not rfl) <| KO.done ?_
      repeat (first | refine K.seq ?_ | refine K.skip ?_ | refine K.block ?_ | refine K.inBlock ?_ | refine K.label ?_)
      refine K.no rfl ?_
      repeat (first | refine K.seq ?_ | refine K.skip ?_ | refine K.block ?_ | refine K.inBlock ?_ | refine K.label ?_)
      refine K.region <| KO.q rfl (q_move rfl) <| KO.q rfl (q_bstr Tryz.underlying23 Tryz.underlying5 Tryz.underlying9 rfl isF (List.Mem.head _) hlen) <| KO.q rfl (q_assign rfl) <| KO.done ?_
      repeat (first | refine K.seq ?_ | refine K.skip ?_ | refine K.block ?_ | refine K.inBlock ?_ | refine K.label ?_)
      refine kr1 Tryz.func160 Tryz.results160 rfl (fun w hs => ?_)
      exact ⟨_, RdL p (cutAddr q' cap' N.toNat 1) (cap' - N.toNat) ⟨S.bs.drop N.toNat, false⟩, rfl, ⟨_, _, by rw [e], by rw [e], by rw [e]; simp; omega⟩, hs.fitD⟩
theorem rd_Flag (p : Nat) (q : Option Addr) (cap : Nat) (s : Rd) (hc : s.bs.length ≤ cap) : Fn Tryz.prog 168 [.pointer (some ⟨p, 0, none⟩)].toArray (RdL p q cap s)
    (fun r post => ∃ q' cap', r = .bool s.flag.1 ∧ post = RdL p q' cap' s.flag.2 ∧ s.flag.2.bs.length ≤ cap') := by
  by_cases hf : s.f = true
  · have e : s.flag = (false, s) := by simp [Rd.flag, Rd.take_failed hf]
    refine Fn.enter (N := 22) Tryz.func168 rfl Tryz.ntmps168 tK rfl (fun ρ L => ?_)
    repeat (first | refine K.seq ?_ | refine K.skip ?_ | refine K.block ?_ | refine K.inBlock ?_ | refine K.label ?_)
    refine K.region <| KO.q rfl (q_assign rfl) <| KO.done ?_
    repeat (first | refine K.seq ?_ | refine K.skip ?_ | refine K.block ?_ | refine K.inBlock ?_ | refine K.label ?_)
    repeat (first | refine K.seq ?_ | refine K.skip ?_ | refine K.block ?_ | refine K.inBlock ?_ | refine K.label ?_)
    refine K.region <| KO.q rfl (q_move rfl) <| KO.loud rfl (OpL.callE rfl (rd_take_failed p q cap s 1 hf)) ?_
    rintro _ _ ⟨_, ⟨rfl, rfl⟩, rfl⟩
    refine KO.q rfl (q_move rfl) <| KO.q rfl (q_extract rfl rfl) <| KO.q rfl (q_extract rfl rfl) <| KO.q rfl (q_assign rfl) <| KO.q rfl (q_assign rfl) <| KO.done ?_
    repeat (first | refine K.seq ?_ | refine K.skip ?_ | refine K.block ?_ | refine K.inBlock ?_ | refine K.label ?_)
    repeat (first | refine K.seq ?_ | refine K.skip ?_ | refine K.block ?_ | refine K.inBlock ?_ | refine K.label ?_)
    refine K.region <| KO.q rfl (q_move rfl) <| KO.q rfl (q_not rfl) <| KO.done ?_
    repeat (first | refine K.seq ?_ | refine K.skip ?_ | refine K.block ?_ | refine K.inBlock ?_ | refine K.label ?_)
    refine K.yes rfl ?_
    repeat (first | refine K.seq ?_ | refine K.skip ?_ | refine K.block ?_ | refine K.inBlock ?_ | refine K.label ?_)
    refine K.region <| KO.q rfl (q_assign rfl) <| KO.done ?_
    repeat (first | refine K.seq ?_ | refine K.skip ?_ | refine K.block ?_ | refine K.inBlock ?_ | refine K.label ?_)
    refine kr1 Tryz.func168 Tryz.results168 rfl (fun w hs => ?_)
    exact ⟨_, RdL p q cap s, rfl, ⟨q, cap, by rw [e], by rw [e], by rw [e]; exact hc⟩, hs.fitD⟩
  · replace hf : s.f = false := by simpa using hf
    by_cases hl : (s.bs.length : Int) < 1
    · have e : s.flag = (false, ⟨[], true⟩) := by simp [Rd.flag, Rd.take_short hf (show s.bs.length < 1 by omega)]
      refine Fn.enter (N := 22) Tryz.func168 rfl Tryz.ntmps168 tK rfl (fun ρ L => ?_)
      repeat (first | refine K.seq ?_ | refine K.skip ?_ | refine K.block ?_ | refine K.inBlock ?_ | refine K.label ?_)
      refine K.region <| KO.q rfl (q_assign rfl) <| KO.done ?_
      repeat (first | refine K.seq ?_ | refine K.skip ?_ | refine K.block ?_ | refine K.inBlock ?_ | refine K.label ?_)
      repeat (first | refine K.seq ?_ | refine K.skip ?_ | refine K.block ?_ | refine K.inBlock ?_ | refine K.label ?_)
      refine K.region <| KO.q rfl (q_move rfl) <| KO.loud rfl (OpL.callE rfl (rd_take_short p q cap s 1 hf hl)) ?_
      rintro _ _ ⟨_, ⟨rfl, rfl⟩, rfl⟩
      refine KO.q rfl (q_move rfl) <| KO.q rfl (q_extract rfl rfl) <| KO.q rfl (q_extract rfl rfl) <| KO.q rfl (q_assign rfl) <| KO.q rfl (q_assign rfl) <| KO.done ?_
      repeat (first | refine K.seq ?_ | refine K.skip ?_ | refine K.block ?_ | refine K.inBlock ?_ | refine K.label ?_)
      repeat (first | refine K.seq ?_ | refine K.skip ?_ | refine K.block ?_ | refine K.inBlock ?_ | refine K.label ?_)
      refine K.region <| KO.q rfl (q_move rfl) <| KO.q rfl (q_not rfl) <| KO.done ?_
      repeat (first | refine K.seq ?_ | refine K.skip ?_ | refine K.block ?_ | refine K.inBlock ?_ | refine K.label ?_)
      refine K.yes rfl ?_
      repeat (first | refine K.seq ?_ | refine K.skip ?_ | refine K.block ?_ | refine K.inBlock ?_ | refine K.label ?_)
      refine K.region <| KO.q rfl (q_assign rfl) <| KO.done ?_
      repeat (first | refine K.seq ?_ | refine K.skip ?_ | refine K.block ?_ | refine K.inBlock ?_ | refine K.label ?_)
      refine kr1 Tryz.func168 Tryz.results168 rfl (fun w hs => ?_)
      exact ⟨_, RdL p none 0 ⟨[], true⟩, rfl, ⟨none, 0, by rw [e], by rw [e], by rw [e]; exact Nat.le_refl _⟩, hs.fitD⟩
    · obtain ⟨bs, f⟩ := s
      obtain rfl : f = false := hf
      replace hl : ¬ (bs.length : Int) < 1 := hl
      replace hc : bs.length ≤ cap := hc
      obtain ⟨c, l, rfl⟩ : ∃ c l, bs = c :: l := by
        cases bs with
        | nil => simp at hl
        | cons c l => exact ⟨c, l, rfl⟩
      have hb := c.toNat_lt
      refine Fn.enter (N := 22) Tryz.func168 rfl Tryz.ntmps168 tK rfl (fun ρ L => ?_)
      repeat (first | refine K.seq ?_ | refine K.skip ?_ | refine K.block ?_ | refine K.inBlock ?_ | refine K.label ?_)
      refine K.region <| KO.q rfl (q_assign rfl) <| KO.done ?_
      repeat (first | refine K.seq ?_ | refine K.skip ?_ | refine K.block ?_ | refine K.inBlock ?_ | refine K.label ?_)
      repeat (first | refine K.seq ?_ | refine K.skip ?_ | refine K.block ?_ | refine K.inBlock ?_ | refine K.label ?_)
      refine K.region <| KO.q rfl (q_move rfl) <| KO.loud rfl (OpL.callE rfl (rd_take_ok p q cap ⟨c :: l, false⟩ 1 rfl tD (by simp; omega) hc)) ?_
      rintro _ _ ⟨_, ⟨rfl, rfl⟩, rfl⟩
      refine KO.q rfl (q_move rfl) <| KO.q rfl (q_extract rfl rfl) <| KO.q rfl (q_extract rfl rfl) <| KO.q rfl (q_assign rfl) <| KO.q rfl (q_assign rfl) <| KO.done ?_
      repeat (first | refine K.seq ?_ | refine K.skip ?_ | refine K.block ?_ | refine K.inBlock ?_ | refine K.label ?_)
      repeat (first | refine K.seq ?_ | refine K.skip ?_ | refine K.block ?_ | refine K.inBlock ?_ | refine K.label ?_)
      refine K.region <| KO.q rfl (q_move rfl) <| KO.q rfl (q_not rfl) <| KO.done ?_
      repeat (first | refine K.seq ?_ | refine K.skip ?_ | refine K.block ?_ | refine K.inBlock ?_ | refine K.label ?_)
      refine K.no rfl ?_
      have hx : ((Rd.mk (c :: l) false).bs.take (1 : Int).toNat)[(0 : Int).toNat]? = some c := rfl
      refine K.fact (rowF_addr (List.Mem.head _) (by intro e; rw [e] at hx; simp at hx)) (fun hq => ?_)
      obtain ⟨bq, oq, rfl⟩ := hq
      repeat (first | refine K.seq ?_ | refine K.skip ?_ | refine K.block ?_ | refine K.inBlock ?_ | refine K.label ?_)
      refine K.region <| KO.q rfl (q_move rfl) <| KO.q rfl (q_index se_23 rfl rfl tN tN) <| KO.q rfl (q_load1D ck_5 rfl) <| KO.q rfl (q_gt rfl rfl) <| KO.done ?_
      repeat (first | refine K.seq ?_ | refine K.skip ?_ | refine K.block ?_ | refine K.inBlock ?_ | refine K.label ?_)
      refine K.dite rfl (fun h => ?_) (fun h => ?_)
      · have e : (Rd.mk (c :: l) false).flag = (false, ⟨[], true⟩) := by
          have : 1 < c.toNat := by omega
          simp [Rd.flag, Rd.take, this]
        repeat (first | refine K.seq ?_ | refine K.skip ?_ | refine K.block ?_ | refine K.inBlock ?_ | refine K.label ?_)
        refine K.region <| KO.q rfl (q_move rfl) <| KO.loud rfl (OpL.callE rfl (rd_fail p _ _)) ?_
        rintro _ _ ⟨_, ⟨rfl, rfl⟩, rfl⟩
        refine KO.done ?_
        repeat (first | refine K.seq ?_ | refine K.skip ?_ | refine K.block ?_ | refine K.inBlock ?_ | refine K.label ?_)
        repeat (first | refine K.seq ?_ | refine K.skip ?_ | refine K.block ?_ | refine K.inBlock ?_ | refine K.label ?_)
        refine K.region <| KO.q rfl (q_assign rfl) <| KO.done ?_
        repeat (first | refine K.seq ?_ | refine K.skip ?_ | refine K.block ?_ | refine K.inBlock ?_ | refine K.label ?_)
        refine kr1 Tryz.func168 Tryz.results168 rfl (fun w hs => ?_)
        exact ⟨_, RdL p none 0 ⟨[], true⟩, rfl, ⟨none, 0, by rw [e], by rw [e], by rw [e]; exact Nat.le_refl _⟩, (rowF_nil (k := Kd.u8) none hs).fitD⟩
      · have e : (Rd.mk (c :: l) false).flag = (c.toNat == 1, ⟨l, false⟩) := by
          have : ¬ 1 < c.toNat := by omega
          simp [Rd.flag, Rd.take, this]
        repeat (first | refine K.seq ?_ | refine K.skip ?_ | refine K.block ?_ | refine K.inBlock ?_ | refine K.label ?_)
        refine K.region <| KO.q rfl (q_move rfl) <| KO.q rfl (q_index se_23 rfl rfl tN tN) <| KO.q rfl (q_load1D ck_5 rfl) <| KO.q rfl (q_eq rfl rfl) <| KO.q rfl (q_assign rfl) <| KO.done ?_
        repeat (first | refine K.seq ?_ | refine K.skip ?_ | refine K.block ?_ | refine K.inBlock ?_ | refine K.label ?_)
        refine kr1 Tryz.func168 Tryz.results168 rfl (fun w hs => ?_)
        have e3 : decide ((c.toNat : Int) = 1) = (c.toNat == 1) := by
          by_cases h1 : c.toNat = 1
          · simp [h1]
          · have h2 : ¬ (c.toNat : Int) = 1 := by omega
            simp [h1, h2]
        rw [e3]
        exact ⟨_, RdL p (cutAddr (some ⟨bq, oq, none⟩) cap 1 1) (cap - 1) ⟨l, false⟩, rfl, ⟨_, _, by rw [e], by rw [e], by rw [e]; simp at hc ⊢; omega⟩, hs.fitD⟩
theorem rd_Failed (p : Nat) (q : Option Addr) (cap : Nat) (s : Rd) : Fn Tryz.prog 130 [.pointer (some ⟨p, 0, none⟩)].toArray (RdL p q cap s) (fun r post => r = .bool s.f ∧ post = RdL p q cap s) := by
  refine Fn.enter (N := 11) Tryz.func130 rfl Tryz.ntmps130 tK rfl (fun ρ L => ?_)
  repeat (first | refine K.seq ?_ | refine K.skip ?_ | refine K.block ?_ | refine K.inBlock ?_ | refine K.label ?_)
  refine K.region <| KO.q rfl (q_assign rfl) <| KO.done ?_
  repeat (first | refine K.seq ?_ | refine K.skip ?_ | refine K.block ?_ | refine K.inBlock ?_ | refine K.label ?_)
  repeat (first | refine K.seq ?_ | refine K.skip ?_ | refine K.block ?_ | refine K.inBlock ?_ | refine K.label ?_)
  refine K.region <| KO.q rfl (q_move rfl) <| KO.q rfl (q_pnn Tryz.underlying170 rfl rfl) <| KO.q rfl (q_move rfl) <| KO.q rfl (q_move rfl) <| KO.q rfl (q_nilCheck rfl) <| KO.q rfl (q_field fo_207_1 rfl) <| KO.q rfl (q_load1D ck_4 rfl) <| KO.q rfl (q_pickT rfl rfl) <| KO.q rfl (q_assign rfl) ?_
  refine KO.done ?_
  repeat (first | refine K.seq ?_ | refine K.skip ?_ | refine K.block ?_ | refine K.inBlock ?_ | refine K.label ?_)
  refine kr1 Tryz.func130 Tryz.results130 rfl (fun w hs => ?_)
  exact ⟨_, RdL p q cap s, rfl, ⟨rfl, rfl⟩, hs.fitD⟩
theorem rd_Left (p : Nat) (q : Option Addr) (cap : Nat) (s : Rd) : Fn Tryz.prog 166 [.pointer (some ⟨p, 0, none⟩)].toArray (RdL p q cap s) (fun r post => r = .int .i64 s.bs.length ∧ post = RdL p q cap s) := by
  refine Fn.enter (N := 10) Tryz.func166 rfl Tryz.ntmps166 tK rfl (fun ρ L => ?_)
  repeat (first | refine K.seq ?_ | refine K.skip ?_ | refine K.block ?_ | refine K.inBlock ?_ | refine K.label ?_)
  refine K.region <| KO.q rfl (q_assign rfl) <| KO.done ?_
  repeat (first | refine K.seq ?_ | refine K.skip ?_ | refine K.block ?_ | refine K.inBlock ?_ | refine K.label ?_)
  repeat (first | refine K.seq ?_ | refine K.skip ?_ | refine K.block ?_ | refine K.inBlock ?_ | refine K.label ?_)
  refine K.region <| KO.q rfl (q_move rfl) <| KO.q rfl (q_pnil Tryz.underlying170 rfl rfl) <| KO.done ?_
  repeat (first | refine K.seq ?_ | refine K.skip ?_ | refine K.block ?_ | refine K.inBlock ?_ | refine K.label ?_)
  refine K.no rfl ?_
  repeat (first | refine K.seq ?_ | refine K.skip ?_ | refine K.block ?_ | refine K.inBlock ?_ | refine K.label ?_)
  refine K.region <| KO.q rfl (q_move rfl) <| KO.q rfl (q_nilCheck rfl) <| KO.q rfl (q_field fo_207_0 rfl) <| KO.q rfl (q_load1D ck_23 rfl) <| KO.q rfl (q_len Tryz.underlying23 rfl) <| KO.q rfl (q_assign rfl) <| KO.done ?_
  repeat (first | refine K.seq ?_ | refine K.skip ?_ | refine K.block ?_ | refine K.inBlock ?_ | refine K.label ?_)
  refine kr1 Tryz.func166 Tryz.results166 rfl (fun w hs => ?_)
  exact ⟨_, RdL p q cap s, rfl, ⟨rfl, rfl⟩, hs.fitD⟩
theorem rd_Done (p : Nat) (q : Option Addr) (cap : Nat) (s : Rd) : Fn Tryz.prog 128 [.pointer (some ⟨p, 0, none⟩)].toArray (RdL p q cap s) (fun r post => r = .bool s.done ∧ post = RdL p q cap s) := by
  refine Fn.enter (N := 11) Tryz.func128 rfl Tryz.ntmps128 tK rfl (fun ρ L => ?_)
  repeat (first | refine K.seq ?_ | refine K.skip ?_ | refine K.block ?_ | refine K.inBlock ?_ | refine K.label ?_)
  refine K.region <| KO.q rfl (q_assign rfl) <| KO.done ?_
  repeat (first | refine K.seq ?_ | refine K.skip ?_ | refine K.block ?_ | refine K.inBlock ?_ | refine K.label ?_)
  repeat (first | refine K.seq ?_ | refine K.skip ?_ | refine K.block ?_ | refine K.inBlock ?_ | refine K.label ?_)
  refine K.region <| KO.q rfl (q_move rfl) <| KO.loud rfl (OpL.callE rfl (rd_Failed p q cap s)) ?_
  rintro _ _ ⟨_, ⟨rfl, rfl⟩, rfl⟩
  refine KO.q rfl (q_not rfl) <| KO.q rfl (q_move rfl) ?_
  refine KO.split 6 rfl (fun g6 => ?_) (fun g6 => ?_)
  · refine KO.q rfl (q_move rfl) <| KO.loud rfl (OpL.callE rfl (rd_Left p q cap s)) ?_
    rintro _ _ ⟨_, ⟨rfl, rfl⟩, rfl⟩
    refine KO.q rfl (q_eq rfl rfl) <| KO.q rfl (q_pickT rfl rfl) <| KO.q rfl (q_assign rfl) <| KO.done ?_
    repeat (first | refine K.seq ?_ | refine K.skip ?_ | refine K.block ?_ | refine K.inBlock ?_ | refine K.label ?_)
    refine kr1 Tryz.func128 Tryz.results128 rfl (fun w hs => ?_)
    refine ⟨_, RdL p q cap s, rfl, ⟨?_, rfl⟩, hs.fitD⟩
    simp [Rd.done, *] <;> (cases s.bs <;> simp)
  · refine KO.skip rfl <| KO.skip rfl <| KO.skip rfl <| KO.q rfl (q_pickF rfl rfl) <| KO.q rfl (q_assign rfl) <| KO.done ?_
    repeat (first | refine K.seq ?_ | refine K.skip ?_ | refine K.block ?_ | refine K.inBlock ?_ | refine K.label ?_)
    refine kr1 Tryz.func128 Tryz.results128 rfl (fun w hs => ?_)
    refine ⟨_, RdL p q cap s, rfl, ⟨?_, rfl⟩, hs.fitD⟩
    simp [Rd.done, *] <;> (cases s.bs <;> simp)
end Go.Proofs.YtkbhldicnamcdaaGreat.L
namespace Go.Proofs.YtkbhldicnamcdaaGreat.L
open Go Go.Proofs
attribute [local irreducible] pv fv pt fz RowF RowO rowP old pure_
set_option maxRecDepth 100000
set_option linter.unusedSimpArgs false
set_option linter.unusedVariables false
theorem clone_u8 (A : HP) (q : Option Addr) (cap : Nat) (xs : List UInt8) (hA : IsRow A Kd.u8 q xs) (hb : xs.length ≤ 1099511627776) : Fn Tryz.prog 40 [.slice q xs.length cap].toArray [A]
    (fun r post => ∃ q' cap', r = .slice q' xs.length cap' ∧ post = [RowO Kd.u8 5 q' cap' xs, A] ∧ xs.length ≤ cap') := by
  refine Fn.enter (N := 8) Tryz.func40 rfl Tryz.ntmps40 tK rfl (fun ρ L => ?_)
  repeat (first | refine K.seq ?_ | refine K.skip ?_ | refine K.block ?_ | refine K.inBlock ?_ | refine K.label ?_)
  refine K.region <| KO.q rfl (q_assign rfl) <| KO.done ?_
  repeat (first | refine K.seq ?_ | refine K.skip ?_ | refine K.block ?_ | refine K.inBlock ?_ | refine K.label ?_)
  repeat (first | refine K.seq ?_ | refine K.skip ?_ | refine K.block ?_ | refine K.inBlock ?_ | refine K.label ?_)
  refine K.region <| KO.q rfl (q_move rfl) <| KO.q rfl (q_slnil Tryz.underlying23 rfl rfl) <| KO.done ?_
  repeat (first | refine K.seq ?_ | refine K.skip ?_ | refine K.block ?_ | refine K.inBlock ?_ | refine K.label ?_)
  refine K.ite rfl (fun h => ?_) (fun h => ?_)
  · -- nil
    cases q with
    | some a => cases h
    | none =>
      refine K.fact (row_none hA (List.Mem.head _)) (fun e => ?_)
      subst e
      repeat (first | refine K.seq ?_ | refine K.skip ?_ | refine K.block ?_ | refine K.inBlock ?_ | refine K.label ?_)
      refine K.region <| KO.q rfl (q_assign rfl) <| KO.done ?_
      repeat (first | refine K.seq ?_ | refine K.skip ?_ | refine K.block ?_ | refine K.inBlock ?_ | refine K.label ?_)
      refine kr1 Tryz.func40 Tryz.results40 rfl (fun w hs => ?_)
      exact ⟨_, [RowO Kd.u8 5 none 0 [], A], rfl, ⟨none, 0, rfl, rfl, Nat.le_refl _⟩, (rowO_nil 5 hs).fitD⟩
  · repeat (first | refine K.seq ?_ | refine K.skip ?_ | refine K.block ?_ | refine K.inBlock ?_ | refine K.label ?_)
    refine K.region <| KO.loud rfl (l_slice0 Kd.u8 se_23) ?_
    rintro _ _ ⟨q0, rfl, rfl⟩
    refine KO.q rfl (q_move rfl) <| KO.loud rfl (l_append Kd.u8 se_23 Tryz.underlying23 ⟨_, ze_5, rfl⟩ tD rfl rfl Pick.here hA (List.Mem.head _) rfl rfl (by simp; omega)) ?_
    rintro _ _ ⟨q', cap', rfl, rfl⟩
    refine KO.q rfl (q_assign rfl) <| KO.done ?_
    repeat (first | refine K.seq ?_ | refine K.skip ?_ | refine K.block ?_ | refine K.inBlock ?_ | refine K.label ?_)
    refine kr1 Tryz.func40 Tryz.results40 rfl (fun w hs => ?_)
    exact ⟨_, [RowO Kd.u8 5 q' cap' xs, A], rfl, ⟨q', cap', rfl, rfl, rowO_cap (List.Mem.head _) w hs⟩, hs.fitD⟩
theorem rd_New (q : Option Addr) (cap : Nat) (xs : List UInt8) (hb : xs.length ≤ 1099511627776) : Fn Tryz.prog 123 [.slice q xs.length cap].toArray [RowF Kd.u8 q xs]
    (fun r post => ∃ p q' cap', r = .pointer (some ⟨p, 0, none⟩) ∧ post = RdL p q' cap' ⟨xs, false⟩ ∧ xs.length ≤ cap') := by
  refine Fn.enter (N := 7) Tryz.func123 rfl Tryz.ntmps123 tK rfl (fun ρ L => ?_)
  repeat (first | refine K.seq ?_ | refine K.skip ?_ | refine K.block ?_ | refine K.inBlock ?_ | refine K.label ?_)
  refine K.region <| KO.q rfl (q_assign rfl) <| KO.done ?_
  repeat (first | refine K.seq ?_ | refine K.skip ?_ | refine K.block ?_ | refine K.inBlock ?_ | refine K.label ?_)
  repeat (first | refine K.seq ?_ | refine K.skip ?_ | refine K.block ?_ | refine K.inBlock ?_ | refine K.label ?_)
  refine K.region <| KO.q rfl (q_move rfl) <| KO.loud rfl (OpL.callE rfl (clone_u8 _ q cap xs isF hb)) ?_
  rintro _ _ ⟨_, ⟨q', cap', rfl, rfl, hc'⟩, rfl⟩
  refine KO.q rfl (q_build st_207 rfl tF) <| KO.loud rfl (l_box rfl rfl) ?_
  rintro _ _ ⟨b6, rfl, rfl⟩
  refine KO.q rfl (q_assign rfl) <| KO.done ?_
  repeat (first | refine K.seq ?_ | refine K.skip ?_ | refine K.block ?_ | refine K.inBlock ?_ | refine K.label ?_)
  refine K.st (fun w h => rowO_freeze (h.pick (.there .here))) ?_
  refine kr1 Tryz.func123 Tryz.results123 rfl (fun w hs => ?_)
  exact ⟨_, RdL b6 q' cap' ⟨xs, false⟩, rfl, ⟨_, q', cap', rfl, rfl, hc'⟩, hs.fitD⟩
abbrev WrL (p : Nat) (q : Option Addr) (cap : Nat) (xs : List UInt8) : List HP := [pv p 150 [.slice q xs.length cap], RowO Kd.u8 5 q cap xs]
theorem wr_number (p : Nat) (q : Option Addr) (cap : Nat) (xs : List UInt8) (n : Int) (m : Int) (h0 : 0 ≤ n) (hm : 0 ≤ m) (h8 : m ≤ 8) (hb : xs.length ≤ 1099511627776) : Fn Tryz.prog 151 [.pointer (some ⟨p, 0, none⟩), .int .u64 n, .int .i64 m].toArray (WrL p q cap xs)
    (fun r post => ∃ q' cap', r = .tuple #[] ∧ post = WrL p q' cap' (xs ++ leb n m.toNat)) := by
  refine Fn.enter (N := 26) Tryz.func151 rfl Tryz.ntmps151 tK rfl (fun ρ L => ?_)
  repeat (first | refine K.seq ?_ | refine K.skip ?_ | refine K.block ?_ | refine K.inBlock ?_ | refine K.label ?_)
  refine K.region <| KO.q rfl (q_move rfl) <| KO.q rfl (q_move rfl) <| KO.done ?_
  repeat (first | refine K.seq ?_ | refine K.skip ?_ | refine K.block ?_ | refine K.inBlock ?_ | refine K.label ?_)
  refine K.rounds (ι := { i : Nat × Option Addr × Nat // i.1 ≤ m.toNat }) (fun i => ([(8, .int .i64 (i.1.1 : Int)), (7, .int .i64 m), (0, .pointer (some ⟨p, 0, none⟩)), (1, .int .u64 n)], WrL p i.1.2.1 i.1.2.2 (xs ++ leb n i.1.1) ++ L)) (fun i => m.toNat - i.1.1) ⟨(0, q, cap), Nat.zero_le _⟩ tS (fun w h => by rw [show leb n 0 = [] from rfl, List.append_nil]; exact h) (fun i ih => ?_)
  obtain ⟨⟨i, q', cap'⟩, hi⟩ := i
  replace hi : i ≤ m.toNat := hi
  have hlen := leb_length n i
  repeat (first | refine K.seq ?_ | refine K.skip ?_ | refine K.block ?_ | refine K.inBlock ?_ | refine K.label ?_)
  refine K.region <| KO.q rfl (q_lt rfl rfl) <| KO.done ?_
  repeat (first | refine K.seq ?_ | refine K.skip ?_ | refine K.block ?_ | refine K.inBlock ?_ | refine K.label ?_)
  refine K.dite rfl (fun h => ?_) (fun h => ?_)
  · replace h : (i : Int) < m := h
    repeat (first | refine K.seq ?_ | refine K.skip ?_ | refine K.block ?_ | refine K.inBlock ?_ | refine K.label ?_)
    refine K.region <| KO.q rfl (q_move rfl) <| KO.q rfl (q_assign rfl) <| KO.done ?_
    repeat (first | refine K.seq ?_ | refine K.skip ?_ | refine K.block ?_ | refine K.inBlock ?_ | refine K.label ?_)
    have hbw := byte_wrap n i tO h0
    repeat (first | refine K.seq ?_ | refine K.skip ?_ | refine K.block ?_ | refine K.inBlock ?_ | refine K.label ?_)
    refine K.draw [pv p 150 [.slice q' (xs ++ leb n i).length cap']] mixed <| dq 0 rfl (q_move rfl) <| dq 1 rfl (q_move rfl) <| dq 2 rfl (q_nilCheck rfl) <| dq 3 rfl (q_field fo_150_0 rfl) <| dq 4 rfl (q_load1D ck_23 rfl) <| dq 5 rfl (q_move rfl) <| dq 6 rfl (q_move rfl) <| dq 7 rfl (q_mul rfl rfl tN tN) <| dq 8 rfl (q_shr rfl rfl tN) ?_
    refine dq 9 rfl (q_convw Tryz.underlying5 (by rw [Tryz.underlying89]; rfl) rfl) <| dq1 10 rfl (l_slice sz_23_1 rfl tF) (.inr (by rintro _ _ ⟨b21, rfl, rfl⟩ w h; exact h.subD)) ?_
    rintro _ _ ⟨b21, rfl, rfl⟩
    refine D.st (fun w h => pv_rowF1 (k := Kd.u8) (byteAt n i) (fun g => congrArg (fun z => [Value.int .u8 z]) hbw) h) <| dq1 11 rfl (l_append Kd.u8 se_23 Tryz.underlying23 ⟨_, ze_5, rfl⟩ tD rfl rfl (Pick.there (Pick.there Pick.here)) isF (List.Mem.head _) rfl rfl (by simp; omega)) (.inr (by rintro _ _ ⟨q'', cap'', rfl, rfl⟩ w h; exact h.subD)) ?_
    rintro _ _ ⟨q'', cap'', rfl, rfl⟩
    refine dq1 12 rfl (OpQ.loud (q_nilCheck rfl)) (.inl tK) ?_
    rintro _ _ ⟨rfl, rfl⟩
    refine dq1 13 rfl (OpQ.loud (q_field fo_150_0 rfl)) (.inl tK) ?_
    rintro _ _ ⟨rfl, rfl⟩
    refine dq1N 14 rfl (l_store1 ck_23 rfl rfl rfl tP tA) (.inl tK) ?_
    rintro _ _ ⟨rfl, rfl⟩
    refine D.done tK ?_
    repeat (first | refine K.seq ?_ | refine K.skip ?_ | refine K.block ?_ | refine K.inBlock ?_ | refine K.label ?_)
    repeat (first | refine K.seq ?_ | refine K.skip ?_ | refine K.block ?_ | refine K.inBlock ?_ | refine K.label ?_)
    refine K.region <| KO.q rfl (q_add rfl rfl tN tN) <| KO.q rfl (q_move rfl) <| KO.done ?_
    repeat (first | refine K.seq ?_ | refine K.skip ?_ | refine K.block ?_ | refine K.inBlock ?_ | refine K.label ?_)
    rw [List.append_assoc, ← leb_succ]
    exact K.weak tS (fun w h => h.fitD) (ih ⟨(i + 1, q'', cap''), by show i + 1 ≤ m.toNat; omega⟩ (by show m.toNat - (i + 1) < m.toNat - i; omega))
  · replace h : ¬ (i : Int) < m := h
    have hi' : i = m.toNat := by omega
    subst hi'
    refine K.exit rfl ?_
    repeat (first | refine K.seq ?_ | refine K.skip ?_ | refine K.block ?_ | refine K.inBlock ?_ | refine K.label ?_)
    refine K.fin (fn := Tryz.f151) Tryz.func151 (fun a w hk hs => res0 Tryz.results151) (fun w hs => ?_)
    exact ⟨_, WrL p q' cap' (xs ++ leb n m.toNat), rfl, ⟨q', cap', rfl, rfl⟩, hs.fitD⟩
theorem wr_Int (p : Nat) (q : Option Addr) (cap : Nat) (xs : List UInt8) (n : Int) (hb : xs.length ≤ 1099511627776) : Fn Tryz.prog 99 [.pointer (some ⟨p, 0, none⟩), .int .i64 n].toArray (WrL p q cap xs)
    (fun r post => ∃ q' cap', r = .tuple #[] ∧ post = WrL p q' cap' (xs ++ wInt n)) := by
  have hw : IntKind.u64.wrap n = u64 n := wrap_u64_mod n
  refine Fn.enter (N := 8) Tryz.func99 rfl Tryz.ntmps99 tK rfl (fun ρ L => ?_)
  repeat (first | refine K.seq ?_ | refine K.skip ?_ | refine K.block ?_ | refine K.inBlock ?_ | refine K.label ?_)
  refine K.region <| KO.q rfl (q_move rfl) <| KO.q rfl (q_move rfl) <| KO.q rfl (q_convw Tryz.underlying89 (by rw [Tryz.underlying3]; rfl) rfl) <| KO.loud rfl (OpL.callE rfl (wr_number p q cap xs (IntKind.u64.wrap n) 8 (by rw [hw]; exact Int.emod_nonneg _ tD) tD tD hb)) ?_
  rintro _ _ ⟨_, ⟨q', cap', rfl, rfl⟩, rfl⟩
  refine KO.done ?_
  repeat (first | refine K.seq ?_ | refine K.skip ?_ | refine K.block ?_ | refine K.inBlock ?_ | refine K.label ?_)
  refine K.fin (fn := Tryz.f99) Tryz.func99 (fun a w hk hs => res0 Tryz.results99) (fun w hs => ?_)
  rw [hw] at hs
  exact ⟨_, WrL p q' cap' (xs ++ wInt n), rfl, ⟨q', cap', rfl, rfl⟩, hs.fitD⟩
theorem wr_Flag (p : Nat) (q : Option Addr) (cap : Nat) (xs : List UInt8) (b : Bool) (hb : xs.length ≤ 1099511627776) : Fn Tryz.prog 101 [.pointer (some ⟨p, 0, none⟩), .bool b].toArray (WrL p q cap xs)
    (fun r post => ∃ q' cap', r = .tuple #[] ∧ post = WrL p q' cap' (xs ++ wFlag b)) := by
  cases b
  · refine Fn.enter (N := 23) Tryz.func101 rfl Tryz.ntmps101 tK rfl (fun ρ L => ?_)
    repeat (first | refine K.seq ?_ | refine K.skip ?_ | refine K.block ?_ | refine K.inBlock ?_ | refine K.label ?_)
    refine K.region <| KO.q rfl (q_move rfl) <| KO.done ?_
    repeat (first | refine K.seq ?_ | refine K.skip ?_ | refine K.block ?_ | refine K.inBlock ?_ | refine K.label ?_)
    refine K.no rfl ?_
    repeat (first | refine K.seq ?_ | refine K.skip ?_ | refine K.block ?_ | refine K.inBlock ?_ | refine K.label ?_)
    refine K.region <| KO.q rfl (q_move rfl) <| KO.q rfl (q_move rfl) <| KO.q rfl (q_nilCheck rfl) <| KO.q rfl (q_field fo_150_0 rfl) <| KO.q rfl (q_load1D ck_23 rfl) <| KO.loud rfl (l_slice sz_23_1 rfl tF) ?_
    rintro _ _ ⟨b19, rfl, rfl⟩
    refine KO.st (fun w h => pv_rowF1 (k := Kd.u8) (0 : UInt8) (fun g => rfl) h) <| KO.loud rfl (l_append Kd.u8 se_23 Tryz.underlying23 ⟨_, ze_5, rfl⟩ tD rfl rfl (Pick.there (Pick.there Pick.here)) isF (List.Mem.head _) rfl rfl (by simp; omega)) ?_
    rintro _ _ ⟨q', cap', rfl, rfl⟩
    refine KO.q rfl (q_nilCheck rfl) <| KO.q rfl (q_field fo_150_0 rfl) <| KO.loudN rfl (l_store1 ck_23 rfl rfl rfl tP tA) ?_
    rintro _ _ ⟨rfl, rfl⟩
    refine KO.done ?_
    repeat (first | refine K.seq ?_ | refine K.skip ?_ | refine K.block ?_ | refine K.inBlock ?_ | refine K.label ?_)
    refine K.fin (fn := Tryz.f101) Tryz.func101 (fun a w hk hs => res0 Tryz.results101) (fun w hs => ?_)
    exact ⟨_, WrL p q' cap' (xs ++ wFlag false), rfl, ⟨q', cap', rfl, rfl⟩, hs.fitD⟩
  · refine Fn.enter (N := 23) Tryz.func101 rfl Tryz.ntmps101 tK rfl (fun ρ L => ?_)
    repeat (first | refine K.seq ?_ | refine K.skip ?_ | refine K.block ?_ | refine K.inBlock ?_ | refine K.label ?_)
    refine K.region <| KO.q rfl (q_move rfl) <| KO.done ?_
    repeat (first | refine K.seq ?_ | refine K.skip ?_ | refine K.block ?_ | refine K.inBlock ?_ | refine K.label ?_)
    refine K.yes rfl ?_
    repeat (first | refine K.seq ?_ | refine K.skip ?_ | refine K.block ?_ | refine K.inBlock ?_ | refine K.label ?_)
    refine K.region <| KO.q rfl (q_move rfl) <| KO.q rfl (q_move rfl) <| KO.q rfl (q_nilCheck rfl) <| KO.q rfl (q_field fo_150_0 rfl) <| KO.q rfl (q_load1D ck_23 rfl) <| KO.loud rfl (l_slice sz_23_1 rfl tF) ?_
    rintro _ _ ⟨b19, rfl, rfl⟩
    refine KO.st (fun w h => pv_rowF1 (k := Kd.u8) (1 : UInt8) (fun g => rfl) h) <| KO.loud rfl (l_append Kd.u8 se_23 Tryz.underlying23 ⟨_, ze_5, rfl⟩ tD rfl rfl (Pick.there (Pick.there Pick.here)) isF (List.Mem.head _) rfl rfl (by simp; omega)) ?_
    rintro _ _ ⟨q', cap', rfl, rfl⟩
    refine KO.q rfl (q_nilCheck rfl) <| KO.q rfl (q_field fo_150_0 rfl) <| KO.loudN rfl (l_store1 ck_23 rfl rfl rfl tP tA) ?_
    rintro _ _ ⟨rfl, rfl⟩
    refine KO.done ?_
    repeat (first | refine K.seq ?_ | refine K.skip ?_ | refine K.block ?_ | refine K.inBlock ?_ | refine K.label ?_)
    refine K.fin (fn := Tryz.f101) Tryz.func101 (fun a w hk hs => res0 Tryz.results101) (fun w hs => ?_)
    exact ⟨_, WrL p q' cap' (xs ++ wFlag true), rfl, ⟨q', cap', rfl, rfl⟩, hs.fitD⟩
theorem wr_Bytes (p : Nat) (q : Option Addr) (cap : Nat) (xs : List UInt8) (hb : xs.length ≤ 1099511627776) : Fn Tryz.prog 103 [.pointer (some ⟨p, 0, none⟩)].toArray (WrL p q cap xs)
    (fun r post => ∃ q' cap', r = .slice q' xs.length cap' ∧ post = RowF Kd.u8 q' xs :: WrL p q cap xs ∧ xs.length ≤ cap') := by
  refine Fn.enter (N := 8) Tryz.func103 rfl Tryz.ntmps103 tK rfl (fun ρ L => ?_)
  repeat (first | refine K.seq ?_ | refine K.skip ?_ | refine K.block ?_ | refine K.inBlock ?_ | refine K.label ?_)
  refine K.region <| KO.q rfl (q_assign rfl) <| KO.done ?_
  repeat (first | refine K.seq ?_ | refine K.skip ?_ | refine K.block ?_ | refine K.inBlock ?_ | refine K.label ?_)
  repeat (first | refine K.seq ?_ | refine K.skip ?_ | refine K.block ?_ | refine K.inBlock ?_ | refine K.label ?_)
  refine K.region <| KO.q rfl (q_move rfl) <| KO.q rfl (q_nilCheck rfl) <| KO.q rfl (q_field fo_150_0 rfl) <| KO.q rfl (q_load1D ck_23 rfl) <| KO.loud rfl (OpL.callE rfl (clone_u8 _ q cap xs isO hb)) ?_
  rintro _ _ ⟨_, ⟨q', cap', rfl, rfl, hc'⟩, rfl⟩
  refine KO.q rfl (q_assign rfl) <| KO.done ?_
  repeat (first | refine K.seq ?_ | refine K.skip ?_ | refine K.block ?_ | refine K.inBlock ?_ | refine K.label ?_)
  refine K.st (fun w h => rowO_freeze h) ?_
  refine kr1 Tryz.func103 Tryz.results103 rfl (fun w hs => ?_)
  exact ⟨_, RowF Kd.u8 q' xs :: WrL p q cap xs, rfl, ⟨q', cap', rfl, rfl, hc'⟩, hs.fitD⟩
end Go.Proofs.YtkbhldicnamcdaaGreat.L
namespace Go.Proofs.YtkbhldicnamcdaaGreat.L
open Go Go.Proofs
attribute [local irreducible] pv fv pt fz RowF RowO rowP old pure_ elA
set_option maxRecDepth 100000
set_option linter.unusedSimpArgs false
set_option linter.unusedVariables false
structure Wz where
  i : Nat
  s : Sl UInt8
def Wz.cells (x : Wz) : List Value := [.int .i64 (x.i : Int), .slice x.s.q x.s.l.length x.s.c]
theorem wz_sz (x : Wz) : x.cells.length = 2 := rfl
theorem wz_one (x : Wz) : ∀ v ∈ x.cells, v.oneCell' = true := fun v h => by simp [Wz.cells] at h; rcases h with h | h <;> subst h <;> rfl
def Kd.wz : Kd Wz := Kd.flat 2 Wz.cells wz_sz wz_one
def Wz.pl (x : Wz) : Nat × Sec := (x.i, x.s.l)
structure DkI (d : Dk) where
  qs : Option Addr
  cs : Nat
  S : List (Sl UInt8)
  qn : Option Addr
  cn : Nat
  N : List (Sl UInt8)
  qu : Option Addr
  cu : Nat
  U : List Wz
  left : Int
  hS : S.map (·.l) = d.sure
  hN : N.map (·.l) = d.now
  hU : U.map Wz.pl = d.l
  hl : left = (match d.lim with | none => -1 | some k => (k : Int))
theorem DkI.lenN {d : Dk} (z : DkI d) : z.N.length = d.len := by rw [← List.length_map (f := fun s : Sl UInt8 => s.l), z.hN, d.now_len]
theorem DkI.lenU {d : Dk} (z : DkI d) : z.U.length = d.l.length := by rw [← z.hU, List.length_map]
theorem DkI.at {d : Dk} (z : DkI d) {i : Nat} (hi : i < d.len) : ∃ s, z.N[i]? = some s ∧ d.now[i]? = some s.l := by
  have h : i < z.N.length := by rw [z.lenN]; exact hi
  refine ⟨z.N[i], List.getElem?_eq_getElem h, ?_⟩
  rw [← z.hN, List.getElem?_map, List.getElem?_eq_getElem h]; rfl
abbrev dkC (qs : Option Addr) (n cs : Nat) (qn : Option Addr) (m cn : Nat) (qu : Option Addr) (k cu : Nat) (left : Int) (off : Bool) (cnt : Int) : List Value := [.slice qs n cs, .slice qn m cn, .slice qu k cu, .int .i64 left, .bool off, .int .i64 cnt]
abbrev DkF (p : Nat) (d : Dk) (z : DkI d) : List HP := [pv p 83 (dkC z.qs z.S.length z.cs z.qn z.N.length z.cn z.qu z.U.length z.cu z.left d.off d.cnt),
  RowO Kd.sb 23 z.qs z.cs z.S, RowO Kd.sb 23 z.qn z.cn z.N, RowO Kd.wz 92 z.qu z.cu z.U, NestSl Kd.u8 (z.S ++ z.N ++ z.U.map (·.s))]
def DkX (p : Nat) (d : Dk) : HP := HP.ex (DkF p d)
def dkI0 (d : Dk) : DkI d := ⟨none, 0, d.sure.map (fun s => ⟨none, 0, s⟩), none, 0, d.now.map (fun s => ⟨none, 0, s⟩), none, 0, d.l.map (fun w => ⟨w.1, none, 0, w.2⟩), _,
  by rw [List.map_map]; exact List.map_id' _, by rw [List.map_map]; exact List.map_id' _, by rw [List.map_map]; exact List.map_id' _, rfl⟩
theorem zSec_len : zSec.length = 64 := by unfold zSec; exact List.length_replicate
theorem ze_sb : zeroOf Tryz.prog 23 = some (Sl.cells (⟨none, 0, []⟩ : Sl UInt8)) := by kernel_rfl
theorem clone_sb (A : HP) (q : Option Addr) (cap : Nat) (xs : List (Sl UInt8)) (hA : IsRow A Kd.sb q xs) (hb : xs.length ≤ 1000000000) : Fn Tryz.prog 38 [.slice q xs.length cap].toArray [A]
    (fun r post => ∃ q' cap', r = .slice q' xs.length cap' ∧ post = [RowO Kd.sb 23 q' cap' xs, A] ∧ xs.length ≤ cap') := by
  refine Fn.enter (N := 8) Tryz.func38 rfl Tryz.ntmps38 tK rfl (fun ρ L => ?_)
  refine K.seq <| K.region <| KO.q rfl (q_assign rfl) <| KO.done <| K.seq <| K.seq <| K.region <| KO.q rfl (q_move rfl) <| KO.q rfl (q_slnil Tryz.underlying80 rfl rfl) <| KO.done ?_
  refine K.ite rfl (fun h => ?_) (fun h => ?_)
  · rcases q with _ | a
    rotate_left
    · cases h
    refine K.fact (row_none hA (List.Mem.head _)) (fun e => ?_)
    subst e
    refine K.seq <| K.region <| KO.q rfl (q_assign rfl) <| KO.done ?_
    refine kr1 Tryz.func38 Tryz.results38 rfl (fun w hs => ?_)
    exact ⟨_, [RowO Kd.sb 23 none 0 [], A], rfl, ⟨none, 0, rfl, rfl, Nat.le_refl _⟩, (rowO_nil (k := Kd.sb) 23 hs).fitD⟩
  · refine K.skip <| K.seq <| K.region <| KO.loud rfl (l_slice0 Kd.sb se_80) ?_
    rintro _ _ ⟨q0, rfl, rfl⟩
    refine KO.q rfl (q_move rfl) <| KO.loud rfl (l_append Kd.sb (xs := []) (ys := xs) se_80 Tryz.underlying80 ⟨_, ze_sb, rfl⟩ tD rfl rfl tP hA tM rfl rfl (by show (2 * (0 + xs.length) + 768) * _ ≤ _; omega)) ?_
    rintro _ _ ⟨q', cap', rfl, rfl⟩
    refine KO.q rfl (q_assign rfl) <| KO.done ?_
    refine kr1 Tryz.func38 Tryz.results38 rfl (fun w hs => ?_)
    exact ⟨_, [RowO Kd.sb 23 q' cap' xs, A], rfl, ⟨q', cap', rfl, rfl, rowO_cap (List.Mem.head _) w hs⟩, hs.fitD⟩
theorem ze_wz : zeroOf Tryz.prog 92 = some (Wz.cells ⟨0, ⟨none, 0, []⟩⟩) := by kernel_rfl
theorem dk_LenF (p : Nat) (d : Dk) (z : DkI d) : Fn Tryz.prog 39 [.pointer (some ⟨p, 0, none⟩)].toArray (DkF p d z) (fun r post => r = .int .i64 (d.len : Nat) ∧ post = DkF p d z) := by
  have hl := z.lenN
  refine Fn.enter (N := 10) Tryz.func39 rfl Tryz.ntmps39 tK rfl (fun ρ L => ?_)
  refine K.seq <| K.region <| KO.q rfl (q_assign rfl) <| KO.done <| K.seq <| K.seq <| K.region <| KO.q rfl (q_move rfl) <| KO.q rfl (q_pnil Tryz.underlying25 rfl rfl) <| KO.done <| K.no rfl ?_
  refine K.skip <| K.seq <| K.region <| KO.q rfl (q_move rfl) <| KO.q rfl (q_nilCheck rfl) <| KO.q rfl (q_field fo_83_1 rfl) <| KO.q rfl (q_load1D ck_80 rfl) <| KO.q rfl (q_len Tryz.underlying80 rfl) <| KO.q rfl (q_assign rfl) <| KO.done ?_
  refine kr1 Tryz.func39 Tryz.results39 rfl (fun w hs => ?_)
  exact ⟨_, DkF p d z, rfl, ⟨by rw [hl], rfl⟩, hs.fitD⟩
theorem dk_SyncF (p : Nat) (d : Dk) (z : DkI d) (hw : d.wf) : Fn Tryz.prog 143 [.pointer (some ⟨p, 0, none⟩)].toArray (DkF p d z) (fun r post => ∃ z' : DkI d.sync.2, r = .bool d.sync.1 ∧ post = DkF p d.sync.2 z') := by
  have hl := z.lenN
  have h4 := hw.len
  refine Fn.enter (N := 22) Tryz.func143 rfl Tryz.ntmps143 tK rfl (fun ρ L => ?_)
  refine K.seq <| K.region <| KO.q rfl (q_assign rfl) <| KO.done <| K.seq <| K.seq <| K.region <| KO.q rfl (q_move rfl) <| KO.q rfl (q_pnil Tryz.underlying25 rfl rfl) <| KO.q rfl (q_move rfl) <| KO.q rfl (q_move rfl) ?_
  refine KO.q rfl (q_nilCheck rfl) <| KO.q rfl (q_field fo_83_4 rfl) <| KO.q rfl (q_load1D ck_4 rfl) <| KO.q rfl (q_pickF rfl rfl) <| KO.done ?_
  first | refine K.dcond (s := 10) rfl (fun g10 => ?_) (fun g10 => ?_) | refine K.bcond (s := 10) rfl (fun g10 => ?_) (fun g10 => ?_)
  · have hb : d.sync = (false, d) := by unfold Dk.sync; rw [if_pos (show d.off = true from decide_eq_true g10)]
    refine K.seq <| K.region <| KO.q rfl (q_assign rfl) <| KO.done ?_
    refine kr1 Tryz.func143 Tryz.results143 rfl (fun w hs => ?_)
    rw [hb]
    exact ⟨_, DkF p d z, rfl, ⟨_, rfl, rfl⟩, hs.fitD⟩
  · have hb : d.sync = (true, ⟨d.now, [], d.lim, d.cnt⟩) := by unfold Dk.sync; rw [if_neg (by simpa [Dk.off] using g10)]
    refine K.skip <| K.seq <| K.region <| KO.q rfl (q_move rfl) <| KO.q rfl (q_move rfl) <| KO.q rfl (q_nilCheck rfl) <| KO.q rfl (q_field fo_83_1 rfl) <| KO.q rfl (q_load1D ck_80 rfl) <| KO.loud rfl (OpL.callD rfl (h := clone_sb (RowO Kd.sb 23 z.qn z.cn z.N) z.qn z.cn z.N isO tO)) ?_
    rintro _ _ ⟨_, ⟨q', c', rfl, rfl, hqc⟩, rfl⟩
    refine KO.q rfl (q_nilCheck rfl) <| KO.q rfl (q_field fo_83_0 rfl) <| KO.loudN rfl (l_store1 ck_80 rfl rfl rfl tP tA) ?_
    rintro _ _ ⟨rfl, rfl⟩
    refine KO.done <| K.seq <| K.region <| KO.q rfl (q_move rfl) <| KO.q rfl (q_nilCheck rfl) <| KO.q rfl (q_field fo_83_2 rfl) <| KO.loudN rfl (l_store1 ck_81 rfl rfl rfl tP tA) ?_
    rintro _ _ ⟨rfl, rfl⟩
    refine KO.done <| K.st (fun w h => rowO_nil (k := Kd.wz) 92 h) <| K.st (fun w h => nestSl_sub (l' := z.N ++ z.N ++ ([] : List Wz).map (·.s)) tM (fun s hs => by simp at hs ⊢; exact .inr (.inl hs)) h) <| K.seq <| K.region <| KO.q rfl (q_assign rfl) <| KO.done ?_
    refine kr1 Tryz.func143 Tryz.results143 rfl (fun w hs => ?_)
    rw [hb]
    exact ⟨_, DkF p ⟨d.now, [], d.lim, d.cnt⟩ ⟨q', c', z.N, z.qn, z.cn, z.N, none, 0, [], z.left, z.hN, z.hN, rfl, z.hl⟩, rfl, ⟨_, rfl, rfl⟩, hs.fitD⟩
theorem dk_ReadF (p : Nat) (d : Dk) (i : Int) (z : DkI d) (hw : d.wf) : Fn Tryz.prog 34 [.pointer (some ⟨p, 0, none⟩), .int .i64 i].toArray (DkF p d z) (fun r post => ∃ q c, r = .slice q (d.read i).length c ∧ post = RowO Kd.u8 5 q c (d.read i) :: DkF p d z ∧ (d.read i).length ≤ c) := by
  have hl := z.lenN
  have h4 := hw.len
  refine Fn.enter (N := 21) Tryz.func34 rfl Tryz.ntmps34 tK rfl (fun ρ L => ?_)
  refine K.seq <| K.region <| KO.q rfl (q_assign rfl) <| KO.done <| K.seq <| K.seq <| K.region <| KO.q rfl (q_move rfl) <| KO.q rfl (q_lt rfl rfl) <| KO.q rfl (q_move rfl) ?_
  refine KO.dsplit 7 rfl (fun g7 => ?_) (fun g7 => ?_)
  · have hr : d.read i = [] := by unfold Dk.read; rw [if_neg tO]
    refine KO.skip rfl <| KO.skip rfl <| KO.skip rfl <| KO.skip rfl <| KO.q rfl (q_pickT rfl rfl) <| KO.done <| K.yes rfl <| K.seq <| K.region <| KO.q rfl (q_assign rfl) ?_
    refine KO.done ?_
    refine kr1 Tryz.func34 Tryz.results34 rfl (fun w hs => ?_)
    rw [hr]
    exact ⟨_, RowO Kd.u8 5 none 0 [] :: DkF p d z, rfl, ⟨none, 0, rfl, rfl, Nat.le_refl _⟩, (rowO_nil (k := Kd.u8) 5 hs).fitD⟩
  · refine KO.q rfl (q_move rfl) <| KO.q rfl (q_move rfl) <| KO.loud rfl (OpL.callD rfl (h := dk_LenF _ _ z)) ?_
    rintro _ _ ⟨_, ⟨rfl, rfl⟩, rfl⟩
    refine KO.q rfl (q_ge rfl rfl) <| KO.q rfl (q_pickF rfl rfl) <| KO.done ?_
    refine K.dcond (s := 12) rfl (fun g12 => ?_) (fun g12 => ?_)
    · have hr : d.read i = [] := by unfold Dk.read; rw [if_neg tO]
      refine K.seq <| K.region <| KO.q rfl (q_assign rfl) <| KO.done ?_
      refine kr1 Tryz.func34 Tryz.results34 rfl (fun w hs => ?_)
      rw [hr]
      exact ⟨_, RowO Kd.u8 5 none 0 [] :: DkF p d z, rfl, ⟨none, 0, rfl, rfl, Nat.le_refl _⟩, (rowO_nil (k := Kd.u8) 5 hs).fitD⟩
    · have hi : 0 ≤ i ∧ i < (d.len : Int) := by omega
      obtain ⟨k, rfl⟩ : ∃ k : Nat, i = (k : Int) := ⟨i.toNat, by omega⟩
      obtain ⟨s, hsN, hsd⟩ := z.at (i := k) tO
      have hr : d.read k = s.l := by unfold Dk.read; rw [if_pos hi, List.getD_eq_getElem?_getD, Int.toNat_natCast, hsd]; rfl
      have hr64 := hw.read hi
      rw [hr] at hr64
      refine K.st (fun w h => nestSl_at (s := s) tM (List.mem_append_left _ (List.mem_append_right _ (List.mem_of_getElem? hsN))) h) ?_
      refine K.skip <| K.seq <| K.region <| KO.q rfl (q_move rfl) <| KO.q rfl (q_nilCheck rfl) <| KO.q rfl (q_field fo_83_1 rfl) <| KO.q rfl (q_load1D ck_80 rfl) <| KO.q rfl (q_move rfl) <| KO.q rfl (q_ix (xs := z.N) k se_80 rfl rfl rfl isO tM rfl tO) ?_
      first | refine KO.q rfl (q_ldE ck_23 rfl isF tM tE rfl) ?_ | refine KO.q rfl (q_ldE ck_23 rfl isO tM tE rfl) ?_
      refine KO.loud rfl (OpL.callD rfl (h := clone_u8 (RowF Kd.u8 s.q s.l) s.q s.c s.l isF tO)) ?_
      rintro _ _ ⟨_, ⟨q', c', rfl, rfl, hqc⟩, rfl⟩
      refine KO.q rfl (q_assign rfl) <| KO.done ?_
      refine kr1 Tryz.func34 Tryz.results34 rfl (fun w hs => ?_)
      rw [hr]
      exact ⟨_, RowO Kd.u8 5 q' c' s.l :: DkF p d z, rfl, ⟨q', c', rfl, rfl, hqc⟩, hs.fitD⟩
theorem Dk.may_iff {d : Dk} {i : Int} {b : Sec} : d.may i b = true ↔ (0 ≤ i ∧ i < (d.len : Int)) ∧ b.length = 64 ∧ ¬ d.lim = some 0 := by
  unfold Dk.may Dk.off
  simp only [Bool.and_eq_true, decide_eq_true_eq, Bool.not_eq_true', decide_eq_false_iff_not, and_assoc]
theorem Dk.write_no {d : Dk} {i : Int} {b : Sec} (h : ¬ ((0 ≤ i ∧ i < (d.len : Int)) ∧ b.length = 64 ∧ ¬ d.lim = some 0)) : d.write i b = (false, d) := by
  unfold Dk.write; rw [if_neg (fun hm => h (Dk.may_iff.1 hm))]
theorem Dk.write_yes {d : Dk} {i : Nat} {b : Sec} (h : i < d.len ∧ b.length = 64 ∧ ¬ d.lim = some 0) : d.write i b = (true, d.put i b) := by
  unfold Dk.write; rw [if_pos (Dk.may_iff.2 ⟨⟨by omega, by omega⟩, h.2⟩)]; rfl
def DkI.put {d : Dk} (z : DkI d) (i : Nat) (b : Sec) (q : Option Addr) (c : Nat) (qu : Option Addr) (cu : Nat) (left : Int) (hl : left = (match (d.put i b).lim with | none => -1 | some k => (k : Int))) : DkI (d.put i b) :=
  ⟨z.qs, z.cs, z.S, z.qn, z.cn, z.N.set i ⟨q, c, b⟩, qu, cu, z.U ++ [⟨i, ⟨q, c, b⟩⟩], left, z.hS, by
    rw [List.map_set, z.hN]; show _ = laid d.sure (d.l ++ [(i, b)]); rw [laid_snoc]; rfl, by rw [List.map_append, z.hU]; rfl, hl⟩
set_option maxHeartbeats 1600000 in
theorem dk_WriteF (A : HP) (p : Nat) (d : Dk) (i : Int) (qb : Option Addr) (cb : Nat) (b : Sec) (z : DkI d) (hA : IsRow A Kd.u8 qb b) (hw : d.wf) (hc : d.cnt ≤ 100000000) : Fn Tryz.prog 15 [.pointer (some ⟨p, 0, none⟩), .int .i64 i, .slice qb b.length cb].toArray (A :: DkF p d z)
    (fun r post => ∃ z' : DkI (d.write i b).2, r = .bool (d.write i b).1 ∧ post = A :: DkF p (d.write i b).2 z') := by
  have hl := z.lenN
  have h4 := hw.len
  have hlu := z.lenU
  have hfew := hw.few
  have hzl := z.hl
  refine Fn.enter (N := 75) Tryz.func15 rfl Tryz.ntmps15 tK rfl (fun ρ L => ?_)
  refine K.seq <| K.region <| KO.q rfl (q_assign rfl) <| KO.done <| K.seq <| K.seq <| K.region <| KO.q rfl (q_move rfl) <| KO.q rfl (q_lt rfl rfl) <| KO.q rfl (q_move rfl) ?_
  refine KO.dsplit 10 rfl (fun g10 => ?_) (fun g10 => ?_)
  · refine KO.skip rfl <| KO.skip rfl <| KO.skip rfl <| KO.skip rfl <| KO.q rfl (q_pickT rfl rfl) <| KO.q rfl (q_move rfl) <| KO.skip rfl <| KO.skip rfl <| KO.skip rfl <| KO.q rfl (q_pickT rfl rfl) ?_
    refine KO.q rfl (q_move rfl) <| KO.skip rfl <| KO.skip rfl <| KO.skip rfl <| KO.skip rfl <| KO.q rfl (q_pickT rfl rfl) <| KO.done <| K.yes rfl <| K.seq <| K.region ?_
    refine KO.q rfl (q_assign rfl) <| KO.done ?_
    refine kr1 Tryz.func15 Tryz.results15 rfl (fun w hs => ?_)
    rw [Dk.write_no tO]
    exact ⟨_, A :: DkF p d z, rfl, ⟨_, rfl, rfl⟩, hs.fitD⟩
  · refine KO.q rfl (q_move rfl) <| KO.q rfl (q_move rfl) <| KO.loud rfl (OpL.callD rfl (h := dk_LenF _ _ z)) ?_
    rintro _ _ ⟨_, ⟨rfl, rfl⟩, rfl⟩
    refine KO.q rfl (q_ge rfl rfl) <| KO.q rfl (q_pickF rfl rfl) <| KO.q rfl (q_move rfl) ?_
    refine KO.dsplit 16 rfl (fun g16 => ?_) (fun g16 => ?_)
    · refine KO.skip rfl <| KO.skip rfl <| KO.skip rfl <| KO.q rfl (q_pickT rfl rfl) <| KO.q rfl (q_move rfl) <| KO.skip rfl <| KO.skip rfl <| KO.skip rfl <| KO.skip rfl <| KO.q rfl (q_pickT rfl rfl) ?_
      refine KO.done <| K.yes rfl <| K.seq <| K.region <| KO.q rfl (q_assign rfl) <| KO.done ?_
      refine kr1 Tryz.func15 Tryz.results15 rfl (fun w hs => ?_)
      rw [Dk.write_no tO]
      exact ⟨_, A :: DkF p d z, rfl, ⟨_, rfl, rfl⟩, hs.fitD⟩
    · refine KO.q rfl (q_move rfl) <| KO.q rfl (q_len Tryz.underlying23 rfl) <| KO.q rfl (q_ne rfl rfl) <| KO.q rfl (q_pickF rfl rfl) <| KO.q rfl (q_move rfl) ?_
      refine KO.dsplit 21 rfl (fun g21 => ?_) (fun g21 => ?_)
      · refine KO.skip rfl <| KO.skip rfl <| KO.skip rfl <| KO.skip rfl <| KO.q rfl (q_pickT rfl rfl) <| KO.done <| K.yes rfl <| K.seq <| K.region <| KO.q rfl (q_assign rfl) ?_
        refine KO.done ?_
        refine kr1 Tryz.func15 Tryz.results15 rfl (fun w hs => ?_)
        rw [Dk.write_no tO]
        exact ⟨_, A :: DkF p d z, rfl, ⟨_, rfl, rfl⟩, hs.fitD⟩
      · refine KO.q rfl (q_move rfl) <| KO.q rfl (q_nilCheck rfl) <| KO.q rfl (q_field fo_83_4 rfl) <| KO.q rfl (q_load1D ck_4 rfl) <| KO.q rfl (q_pickF rfl rfl) <| KO.done ?_
        first | refine K.dcond (s := 26) rfl (fun g26 => ?_) (fun g26 => ?_) | refine K.bcond (s := 26) rfl (fun g26 => ?_) (fun g26 => ?_)
        · refine K.seq <| K.region <| KO.q rfl (q_assign rfl) <| KO.done ?_
          refine kr1 Tryz.func15 Tryz.results15 rfl (fun w hs => ?_)
          rw [Dk.write_no (fun h => h.2.2 g26)]
          exact ⟨_, A :: DkF p d z, rfl, ⟨_, rfl, rfl⟩, hs.fitD⟩
        · obtain ⟨k, rfl⟩ : ∃ k : Nat, i = (k : Int) := ⟨i.toNat, by omega⟩
          have hy : d.write k b = (true, d.put k b) := Dk.write_yes ⟨by omega, by omega, g26⟩
          obtain ⟨s, hsN, _⟩ := z.at (i := k) tO
          have hb64 : b.length = 64 := by omega
          refine K.skip <| K.seq <| K.seq <| K.region <| KO.q rfl (q_move rfl) <| KO.q rfl (q_nilCheck rfl) <| KO.q rfl (q_field fo_83_3 rfl) <| KO.q rfl (q_load1D ck_3 rfl) <| KO.q rfl (q_gt rfl rfl) <| KO.done ?_
          refine K.dcond (s := 31) rfl (fun g31 => ?_) (fun g31 => ?_)
          · obtain ⟨n, hlim, hn0, hn1, hn2⟩ : ∃ n : Nat, d.lim = some (n + 1) ∧ z.left = ((n + 1 : Nat) : Int) ∧ z.left - 1 = (n : Int) ∧ z.left ≤ 9223372036854775807 := by
              rcases h : d.lim with _ | m
              · rw [h] at hzl
                have hzl : z.left = -1 := hzl
                omega
              · rw [h] at hzl
                have hzl : z.left = (m : Int) := hzl
                have := hw.lm m h
                exact ⟨m - 1, by congr 1; omega, by omega, by omega, by omega⟩
            have hlim' : (d.put k b).lim = some n := by show d.lim.map Nat.pred = _; rw [hlim]; rfl
            have ho : decide ((n : Int) = 0) = (d.put k b).off := by
              show _ = decide ((d.put k b).lim = some 0)
              rw [hlim']; exact decide_eq_decide.2 ⟨fun h => by congr 1; omega, fun h => by cases h; rfl⟩
            refine K.seq <| K.region <| KO.q rfl (q_move rfl) <| KO.q rfl (q_nilCheck rfl) <| KO.q rfl (q_field fo_83_3 rfl) <| KO.q rfl (q_load1D ck_3 rfl) <| KO.q rfl (q_sub rfl rfl tN tN) <| KO.q rfl (q_nilCheck rfl) <| KO.q rfl (q_field fo_83_3 rfl) <| KO.loudN rfl (l_store1 ck_3 rfl rfl rfl tP tA) ?_
            rintro _ _ ⟨rfl, rfl⟩
            refine KO.done ?_
            rw [hn1]
            refine K.region <| KO.q rfl (q_move rfl) <| KO.q rfl (q_move rfl) <| KO.q rfl (q_nilCheck rfl) <| KO.q rfl (q_field fo_83_3 rfl) <| KO.q rfl (q_load1D ck_3 rfl) <| KO.q rfl (q_eq rfl rfl) <| KO.q rfl (q_nilCheck rfl) <| KO.q rfl (q_field fo_83_4 rfl) <| KO.loudN rfl (l_store1 ck_4 rfl rfl rfl tP tA) ?_
            rintro _ _ ⟨rfl, rfl⟩
            refine KO.done ?_
            rw [ho]
            refine K.seq <| K.region <| KO.q rfl (q_move rfl) <| KO.loud rfl (OpL.callD rfl (h := clone_u8 A qb cb b hA tO)) ?_
            rintro _ _ ⟨_, ⟨q', c', rfl, rfl, hqc⟩, rfl⟩
            refine KO.st (fun w h => rowO_freeze (h.pick tP)) ?_
            refine KO.st (fun w h => nestSl_add (l' := z.S ++ z.N.set k ⟨q', c', b⟩ ++ (z.U ++ [(⟨k, ⟨q', c', b⟩⟩ : Wz)]).map (fun x : Wz => x.s)) ⟨q', c', b⟩ (l := z.S ++ z.N ++ z.U.map (·.s)) tM tM (fun x hx => by
              simp only [List.mem_append, List.map_append, List.map_cons, List.map_nil, List.mem_singleton] at hx ⊢
              rcases hx with (hx | hx) | hx | hx
              · exact .inl (.inl (.inl hx))
              · exact (List.mem_or_eq_of_mem_set hx).elim (fun h => .inl (.inl (.inr h))) .inr
              · exact .inl (.inr hx)
              · exact .inr hx) h) ?_
            refine KO.q rfl (q_assign rfl) <| KO.done <| K.seq <| K.region <| KO.q rfl (q_move rfl) <| KO.q rfl (q_nilCheck rfl) <| KO.q rfl (q_field fo_83_1 rfl) <| KO.q rfl (q_load1D ck_80 rfl) <| KO.q rfl (q_move rfl) <| KO.q rfl (q_move rfl) ?_
            refine KO.q rfl (q_ix (xs := z.N) k se_80 rfl rfl rfl isO tM rfl tO) <| KO.loudN rfl (l_storeE (xs := z.N) (el := s) ⟨q', c', b⟩ ck_23 rfl rfl rfl tP hsN tD rfl) ?_
            rintro _ _ ⟨rfl, rfl⟩
            refine KO.done <| K.seq <| K.region <| KO.q rfl (q_move rfl) <| KO.q rfl (q_move rfl) <| KO.q rfl (q_nilCheck rfl) <| KO.q rfl (q_field fo_83_2 rfl) <| KO.q rfl (q_load1D ck_81 rfl) <| KO.q rfl (q_move rfl) <| KO.q rfl (q_move rfl) ?_
            refine KO.q rfl (q_as (q_build st_92 rfl tF) (show _ = Wz.cells ⟨k, ⟨q', c', b⟩⟩ from rfl)) <| KO.loud rfl (l_slice1 sz_81_1 rfl rfl ⟨rfl, rfl, rfl⟩) ?_
            rintro _ _ ⟨b64, rfl, rfl⟩
            refine KO.loud rfl (l_append Kd.wz (ys := [⟨k, ⟨q', c', b⟩⟩]) se_81 Tryz.underlying81 ⟨_, ze_wz, rfl⟩ tD rfl rfl tP isP tM rfl rfl (by show (2 * (z.U.length + 1) + 768) * _ ≤ _; omega)) ?_
            rintro _ _ ⟨qu', cu', rfl, rfl⟩
            refine KO.q rfl (q_nilCheck rfl) <| KO.q rfl (q_field fo_83_2 rfl) <| KO.loudN rfl (l_store1 ck_81 rfl rfl rfl tP tA) ?_
            rintro _ _ ⟨rfl, rfl⟩
            refine KO.done <| K.seq <| K.region <| KO.q rfl (q_move rfl) <| KO.q rfl (q_nilCheck rfl) <| KO.q rfl (q_field fo_83_5 rfl) <| KO.q rfl (q_load1D ck_3 rfl) <| KO.q rfl (q_add rfl rfl tN tN) <| KO.q rfl (q_nilCheck rfl) <| KO.q rfl (q_field fo_83_5 rfl) ?_
            refine KO.loudN rfl (l_store1 ck_3 rfl rfl rfl tP tA) ?_
            rintro _ _ ⟨rfl, rfl⟩
            refine KO.done ?_
            rw [show z.N.length = (z.N.set k ⟨q', c', b⟩).length from List.length_set.symm]
            refine K.seq <| K.region <| KO.q rfl (q_assign rfl) <| KO.done ?_
            refine kr1 Tryz.func15 Tryz.results15 rfl (fun w hs => ?_)
            rw [hy]
            exact ⟨_, A :: DkF p (d.put k b) (z.put k b q' c' qu' cu' n (by rw [hlim'])), rfl, ⟨_, rfl, rfl⟩, hs.fitD⟩
          · have hlim : d.lim = none := by
              rcases h : d.lim with _ | m
              · rfl
              · rw [h] at hzl
                have hzl : z.left = (m : Int) := hzl
                exact absurd (by rw [h]; congr 1; omega) g26
            have hlim' : (d.put k b).lim = none := by show d.lim.map Nat.pred = _; rw [hlim]; rfl
            have ho : d.off = (d.put k b).off := by unfold Dk.off; rw [hlim', hlim]
            refine K.skip <| K.seq <| K.region <| KO.q rfl (q_move rfl) <| KO.loud rfl (OpL.callD rfl (h := clone_u8 A qb cb b hA tO)) ?_
            rintro _ _ ⟨_, ⟨q', c', rfl, rfl, hqc⟩, rfl⟩
            refine KO.st (fun w h => rowO_freeze (h.pick tP)) ?_
            refine KO.st (fun w h => nestSl_add (l' := z.S ++ z.N.set k ⟨q', c', b⟩ ++ (z.U ++ [(⟨k, ⟨q', c', b⟩⟩ : Wz)]).map (fun x : Wz => x.s)) ⟨q', c', b⟩ (l := z.S ++ z.N ++ z.U.map (·.s)) tM tM (fun x hx => by
              simp only [List.mem_append, List.map_append, List.map_cons, List.map_nil, List.mem_singleton] at hx ⊢
              rcases hx with (hx | hx) | hx | hx
              · exact .inl (.inl (.inl hx))
              · exact (List.mem_or_eq_of_mem_set hx).elim (fun h => .inl (.inl (.inr h))) .inr
              · exact .inl (.inr hx)
              · exact .inr hx) h) ?_
            refine KO.q rfl (q_assign rfl) <| KO.done <| K.seq <| K.region <| KO.q rfl (q_move rfl) <| KO.q rfl (q_nilCheck rfl) <| KO.q rfl (q_field fo_83_1 rfl) <| KO.q rfl (q_load1D ck_80 rfl) <| KO.q rfl (q_move rfl) <| KO.q rfl (q_move rfl) ?_
            refine KO.q rfl (q_ix (xs := z.N) k se_80 rfl rfl rfl isO tM rfl tO) <| KO.loudN rfl (l_storeE (xs := z.N) (el := s) ⟨q', c', b⟩ ck_23 rfl rfl rfl tP hsN tD rfl) ?_
            rintro _ _ ⟨rfl, rfl⟩
            refine KO.done <| K.seq <| K.region <| KO.q rfl (q_move rfl) <| KO.q rfl (q_move rfl) <| KO.q rfl (q_nilCheck rfl) <| KO.q rfl (q_field fo_83_2 rfl) <| KO.q rfl (q_load1D ck_81 rfl) <| KO.q rfl (q_move rfl) <| KO.q rfl (q_move rfl) ?_
            refine KO.q rfl (q_as (q_build st_92 rfl tF) (show _ = Wz.cells ⟨k, ⟨q', c', b⟩⟩ from rfl)) <| KO.loud rfl (l_slice1 sz_81_1 rfl rfl ⟨rfl, rfl, rfl⟩) ?_
            rintro _ _ ⟨b64, rfl, rfl⟩
            refine KO.loud rfl (l_append Kd.wz (ys := [⟨k, ⟨q', c', b⟩⟩]) se_81 Tryz.underlying81 ⟨_, ze_wz, rfl⟩ tD rfl rfl tP isP tM rfl rfl (by show (2 * (z.U.length + 1) + 768) * _ ≤ _; omega)) ?_
            rintro _ _ ⟨qu', cu', rfl, rfl⟩
            refine KO.q rfl (q_nilCheck rfl) <| KO.q rfl (q_field fo_83_2 rfl) <| KO.loudN rfl (l_store1 ck_81 rfl rfl rfl tP tA) ?_
            rintro _ _ ⟨rfl, rfl⟩
            refine KO.done <| K.seq <| K.region <| KO.q rfl (q_move rfl) <| KO.q rfl (q_nilCheck rfl) <| KO.q rfl (q_field fo_83_5 rfl) <| KO.q rfl (q_load1D ck_3 rfl) <| KO.q rfl (q_add rfl rfl tN tN) <| KO.q rfl (q_nilCheck rfl) <| KO.q rfl (q_field fo_83_5 rfl) ?_
            refine KO.loudN rfl (l_store1 ck_3 rfl rfl rfl tP tA) ?_
            rintro _ _ ⟨rfl, rfl⟩
            refine KO.done ?_
            rw [show z.N.length = (z.N.set k ⟨q', c', b⟩).length from List.length_set.symm, ho]
            refine K.seq <| K.region <| KO.q rfl (q_assign rfl) <| KO.done ?_
            refine kr1 Tryz.func15 Tryz.results15 rfl (fun w hs => ?_)
            rw [hy]
            exact ⟨_, A :: DkF p (d.put k b) (z.put k b q' c' qu' cu' z.left (by rw [hlim', hzl, hlim])), rfl, ⟨_, rfl, rfl⟩, hs.fitD⟩
set_option maxHeartbeats 1600000 in
theorem dk_NewF (n : Int) : Fn Tryz.prog 11 [.int .i64 n].toArray [] (fun r post => ∃ p, ∃ z : DkI (Dk.new n), r = .pointer (some ⟨p, 0, none⟩) ∧ post = DkF p (Dk.new n) z) := by
  obtain ⟨m, hm, hm4⟩ : ∃ m : Nat, max 0 (if (4096 : Int) < n then (4096 : Int) else n) = (m : Int) ∧ m = (min n 4096).toNat := ⟨_, by split <;> omega, rfl⟩
  refine Fn.enter (N := 31) Tryz.func11 rfl Tryz.ntmps11 tK rfl (fun ρ L => ?_)
  refine K.seq <| K.region <| KO.q rfl (q_assign rfl) <| KO.done <| K.seq <| K.region <| KO.q rfl (q_build st_83 rfl tF) <| KO.loud rfl (l_box rfl rfl) ?_
  rintro _ _ ⟨b5, rfl, rfl⟩
  refine KO.q rfl (q_assign rfl) <| KO.done <| K.seq <| K.seq <| K.region <| KO.q rfl (q_move rfl) <| KO.q rfl (q_min rfl rfl) <| KO.q rfl (q_max rfl rfl) <| KO.q rfl (q_move rfl) <| KO.done ?_
  rw [hm]
  refine K.block ?_
  refine K.rounds2 (ι := { x : Nat × Option Addr × Nat × List (Sl UInt8) // x.1 ≤ m ∧ x.2.2.2.length = x.1 ∧ ∀ s ∈ x.2.2.2, s.l = zSec }) (fun x => [(9, .int .i64 x.1.1), (8, .int .i64 m), (3, .pointer (some ⟨b5, 0, none⟩))]) (fun x => pv b5 83 (dkC x.1.2.1 x.1.2.2.2.length x.1.2.2.1 none 0 0 none 0 0 (-1) false 0) :: RowO Kd.sb 23 x.1.2.1 x.1.2.2.1 x.1.2.2.2 :: [NestSl Kd.u8 x.1.2.2.2] ++ L) (fun x => m - x.1.1) ⟨(0, none, 0, []), Nat.zero_le _, rfl, fun s hs => by cases hs⟩ tS (fun w h => (nestSl_nil (k := Kd.u8) (rowO_nil (k := Kd.sb) 23 h)).fitD) (fun x ih => ?_)
  obtain ⟨⟨i, q, c, S⟩, hi, hS, hz⟩ := x
  dsimp only at hi hS hz ⊢
  refine K.seq <| K.region <| KO.q rfl (q_lt rfl rfl) <| KO.done <| K.seq ?_
  refine K.dcond (s := 10) rfl (fun g10 => ?_) (fun g10 => ?_)
  · refine K.skip <| K.seq <| K.block <| K.drawS [pv b5 83 (dkC q S.length c none 0 0 none 0 0 (-1) false 0)] (fun _ h => h.subD) mixed <| dq 0 rfl (q_move rfl) <| dq 1 rfl (q_move rfl) <| dq 2 rfl (q_nilCheck rfl) <| dq 3 rfl (q_field fo_83_0 rfl) ?_
    refine D.all (rs := [4, 5]) tK rfl (DAll.cons rfl tK (OpQ.loud (q_load1D ck_80 rfl)) (.inr (by rintro _ _ ⟨rfl, rfl⟩ w h; exact h.subD)) rfl ?_ (DAll.cons rfl tK (l_make Kd.u8 0 (m := 64) se_23 ze_5 rfl (fun _ => rfl) rfl rfl tD tD) (.inr (by rintro _ _ ⟨pm, rfl, rfl⟩ w h; exact h.subD)) rfl ?_ DAll.nil))
    · rintro _ _ ⟨rfl, rfl⟩
      refine dq1 5 rfl (l_make Kd.u8 0 (m := 64) se_23 ze_5 rfl (fun _ => rfl) rfl rfl tD tD) (.inr (by rintro _ _ ⟨pm, rfl, rfl⟩ w h; exact h.subD)) ?_
      rintro _ _ ⟨pm, rfl, rfl⟩
      refine dq1 6 rfl (l_slice sz_80_1 rfl tF) (.inr (by rintro _ _ ⟨b17, rfl, rfl⟩ w h; exact h.subD)) ?_
      rintro _ _ ⟨b17, rfl, rfl⟩
      refine D.st (fun w h => pv_sl1 (l := zSec) zSec_len h) <| dq1 7 rfl (l_append Kd.sb (ys := [⟨pm, 64, zSec⟩]) se_80 Tryz.underlying80 ⟨_, ze_sb, rfl⟩ tD rfl rfl tP isP tM rfl rfl (by show (2 * (S.length + 1) + 768) * _ ≤ _; omega)) (.inr (by rintro _ _ ⟨q', c', rfl, rfl⟩ w h; exact h.subD)) ?_
      rintro _ _ ⟨q', c', rfl, rfl⟩
      refine dq1 8 rfl (OpQ.loud (q_nilCheck rfl)) (.inl tK) ?_
      rintro _ _ ⟨rfl, rfl⟩
      refine dq1 9 rfl (OpQ.loud (q_field fo_83_0 rfl)) (.inl tK) ?_
      rintro _ _ ⟨rfl, rfl⟩
      refine dq1N 10 rfl (l_store1 ck_80 rfl rfl rfl tP tA) (.inl tK) ?_
      rintro _ _ ⟨rfl, rfl⟩
      refine D.done tK <| K.inBlock <| K.region <| KO.q rfl (q_add rfl rfl tN tN) <| KO.q rfl (q_move rfl) <| KO.done <| K.st (fun w h => rowO_freeze (xs := zSec) (k := Kd.u8) (p := pm) (e := 5) (cap := 64) (h.pick tP)) <| K.st (fun w h => nestSl_add (l' := S ++ [⟨pm, 64, zSec⟩]) ⟨pm, 64, zSec⟩ (l := S) tM tM (fun x hx => (List.mem_append.1 hx).imp id List.mem_singleton.1) h) ?_
      exact K.weak tS (fun w h => h.fitD) (ih ⟨(i + 1, q', c', S ++ [⟨pm, 64, zSec⟩]), by show i + 1 ≤ _; omega, by show (S ++ [_]).length = i + 1; rw [List.length_append, hS]; rfl, fun s hs => by
        rcases List.mem_append.1 hs with hs | hs
        · exact hz s hs
        · rw [List.mem_singleton.1 hs]⟩ (by show m - (i + 1) < m - i; omega))
    · rintro _ _ ⟨pm, rfl, rfl⟩
      refine D.all (rs := [4, 6]) tK rfl (DAll.cons rfl tK (OpQ.loud (q_load1D ck_80 rfl)) (.inr (by rintro _ _ ⟨rfl, rfl⟩ w h; exact h.subD)) rfl ?_ (DAll.cons rfl tK (l_slice sz_80_1 rfl tF) (.inr (by rintro _ _ ⟨b17, rfl, rfl⟩ w h; exact h.subD)) rfl ?_ DAll.nil))
      · rintro _ _ ⟨rfl, rfl⟩
        refine dq1 6 rfl (l_slice sz_80_1 rfl tF) (.inr (by rintro _ _ ⟨b17, rfl, rfl⟩ w h; exact h.subD)) ?_
        rintro _ _ ⟨b17, rfl, rfl⟩
        refine D.st (fun w h => pv_sl1 (l := zSec) zSec_len h) <| dq1 7 rfl (l_append Kd.sb (ys := [⟨pm, 64, zSec⟩]) se_80 Tryz.underlying80 ⟨_, ze_sb, rfl⟩ tD rfl rfl tP isP tM rfl rfl (by show (2 * (S.length + 1) + 768) * _ ≤ _; omega)) (.inr (by rintro _ _ ⟨q', c', rfl, rfl⟩ w h; exact h.subD)) ?_
        rintro _ _ ⟨q', c', rfl, rfl⟩
        refine dq1 8 rfl (OpQ.loud (q_nilCheck rfl)) (.inl tK) ?_
        rintro _ _ ⟨rfl, rfl⟩
        refine dq1 9 rfl (OpQ.loud (q_field fo_83_0 rfl)) (.inl tK) ?_
        rintro _ _ ⟨rfl, rfl⟩
        refine dq1N 10 rfl (l_store1 ck_80 rfl rfl rfl tP tA) (.inl tK) ?_
        rintro _ _ ⟨rfl, rfl⟩
        refine D.done tK <| K.inBlock <| K.region <| KO.q rfl (q_add rfl rfl tN tN) <| KO.q rfl (q_move rfl) <| KO.done <| K.st (fun w h => rowO_freeze (xs := zSec) (k := Kd.u8) (p := pm) (e := 5) (cap := 64) (h.pick tP)) <| K.st (fun w h => nestSl_add (l' := S ++ [⟨pm, 64, zSec⟩]) ⟨pm, 64, zSec⟩ (l := S) tM tM (fun x hx => (List.mem_append.1 hx).imp id List.mem_singleton.1) h) ?_
        exact K.weak tS (fun w h => h.fitD) (ih ⟨(i + 1, q', c', S ++ [⟨pm, 64, zSec⟩]), by show i + 1 ≤ _; omega, by show (S ++ [_]).length = i + 1; rw [List.length_append, hS]; rfl, fun s hs => by
          rcases List.mem_append.1 hs with hs | hs
          · exact hz s hs
          · rw [List.mem_singleton.1 hs]⟩ (by show m - (i + 1) < m - i; omega))
      · rintro _ _ ⟨b17, rfl, rfl⟩
        refine D.st (fun w h => pv_sl1 (l := zSec) zSec_len h) <| dq1 4 rfl (OpQ.loud (q_load1D ck_80 rfl)) (.inr (by rintro _ _ ⟨rfl, rfl⟩ w h; exact h.subD)) ?_
        rintro _ _ ⟨rfl, rfl⟩
        refine dq1 7 rfl (l_append Kd.sb (ys := [⟨pm, 64, zSec⟩]) se_80 Tryz.underlying80 ⟨_, ze_sb, rfl⟩ tD rfl rfl tP isP tM rfl rfl (by show (2 * (S.length + 1) + 768) * _ ≤ _; omega)) (.inr (by rintro _ _ ⟨q', c', rfl, rfl⟩ w h; exact h.subD)) ?_
        rintro _ _ ⟨q', c', rfl, rfl⟩
        refine dq1 8 rfl (OpQ.loud (q_nilCheck rfl)) (.inl tK) ?_
        rintro _ _ ⟨rfl, rfl⟩
        refine dq1 9 rfl (OpQ.loud (q_field fo_83_0 rfl)) (.inl tK) ?_
        rintro _ _ ⟨rfl, rfl⟩
        refine dq1N 10 rfl (l_store1 ck_80 rfl rfl rfl tP tA) (.inl tK) ?_
        rintro _ _ ⟨rfl, rfl⟩
        refine D.done tK <| K.inBlock <| K.region <| KO.q rfl (q_add rfl rfl tN tN) <| KO.q rfl (q_move rfl) <| KO.done <| K.st (fun w h => rowO_freeze (xs := zSec) (k := Kd.u8) (p := pm) (e := 5) (cap := 64) (h.pick tP)) <| K.st (fun w h => nestSl_add (l' := S ++ [⟨pm, 64, zSec⟩]) ⟨pm, 64, zSec⟩ (l := S) tM tM (fun x hx => (List.mem_append.1 hx).imp id List.mem_singleton.1) h) ?_
        exact K.weak tS (fun w h => h.fitD) (ih ⟨(i + 1, q', c', S ++ [⟨pm, 64, zSec⟩]), by show i + 1 ≤ _; omega, by show (S ++ [_]).length = i + 1; rw [List.length_append, hS]; rfl, fun s hs => by
          rcases List.mem_append.1 hs with hs | hs
          · exact hz s hs
          · rw [List.mem_singleton.1 hs]⟩ (by show m - (i + 1) < m - i; omega))
  · obtain rfl : i = m := by omega
    have hSe : S.map (·.l) = List.replicate i zSec := List.eq_replicate_iff.2 ⟨by rw [List.length_map, hS], fun b hb => by obtain ⟨s, hs, rfl⟩ := List.mem_map.1 hb; exact hz s hs⟩
    clear ih
    refine K.exit rfl <| K.seq <| K.region <| KO.q rfl (q_move rfl) <| KO.q rfl (q_move rfl) <| KO.q rfl (q_nilCheck rfl) <| KO.q rfl (q_field fo_83_0 rfl) <| KO.q rfl (q_load1D ck_80 rfl) <| KO.loud rfl (OpL.callD rfl (h := clone_sb (RowO Kd.sb 23 q c S) q c S isO tO)) ?_
    rintro _ _ ⟨_, ⟨q', c', rfl, rfl, hqc⟩, rfl⟩
    refine KO.q rfl (q_nilCheck rfl) <| KO.q rfl (q_field fo_83_1 rfl) <| KO.loudN rfl (l_store1 ck_80 rfl rfl rfl tP tA) ?_
    rintro _ _ ⟨rfl, rfl⟩
    refine KO.done <| K.st (fun w h => rowO_nil (k := Kd.wz) 92 h) <| K.st (fun w h => nestSl_sub (l' := S ++ S ++ ([] : List Wz).map (·.s)) tM (fun s hs => by simpa using hs) h) <| K.seq <| K.region <| KO.q rfl (q_move rfl) <| KO.q rfl (q_assign rfl) <| KO.done ?_
    refine kr1 Tryz.func11 Tryz.results11 rfl (fun w hs => ?_)
    exact ⟨_, DkF b5 (Dk.new n) ⟨q, c, S, q', c', S, none, 0, [], -1, by rw [hSe, hm4]; rfl, by rw [hSe, hm4]; rfl, rfl, rfl⟩, rfl, ⟨_, _, rfl, rfl⟩, hs.fitD⟩
end Go.Proofs.YtkbhldicnamcdaaGreat.L
namespace Go.Proofs.YtkbhldicnamcdaaGreat.L
open Go Go.Proofs
attribute [local irreducible] pv fv pt fz RowF RowO rowP old pure_ elA
set_option maxRecDepth 100000
set_option linter.unusedSimpArgs false
set_option linter.unusedVariables false
theorem dk_Len (p : Nat) (d : Dk) : Fn Tryz.prog 39 [.pointer (some ⟨p, 0, none⟩)].toArray [DkX p d] (fun r post => r = .int .i64 (d.len : Nat) ∧ post = [DkX p d]) :=
  (Fn.exT (f' := DkF p d) (Ψ := fun r M => r = .int .i64 (d.len : Nat) ∧ M = []) (dkI0 d) (fun z => (dk_LenF p d z).mono fun r post ⟨h1, h2⟩ => ⟨z, [], ⟨h1, rfl⟩, h2⟩)).mono fun r post ⟨M, ⟨h1, h2⟩, h3⟩ => ⟨h1, by rw [h3, h2]; rfl⟩
theorem dk_Sync (p : Nat) (d : Dk) (hw : d.wf) : Fn Tryz.prog 143 [.pointer (some ⟨p, 0, none⟩)].toArray [DkX p d] (fun r post => r = .bool d.sync.1 ∧ post = [DkX p d.sync.2]) :=
  (Fn.exT (f' := DkF p d.sync.2) (Ψ := fun r M => r = .bool d.sync.1 ∧ M = []) (dkI0 d) (fun z => (dk_SyncF p d z hw).mono fun r post ⟨z', h1, h2⟩ => ⟨z', [], ⟨h1, rfl⟩, h2⟩)).mono fun r post ⟨M, ⟨h1, h2⟩, h3⟩ => ⟨h1, by rw [h3, h2]; rfl⟩
theorem dk_Read (p : Nat) (d : Dk) (i : Int) (hw : d.wf) : Fn Tryz.prog 34 [.pointer (some ⟨p, 0, none⟩), .int .i64 i].toArray [DkX p d] (fun r post => ∃ q c, r = .slice q (d.read i).length c ∧ post = [RowO Kd.u8 5 q c (d.read i), DkX p d] ∧ (d.read i).length ≤ c) :=
  (Fn.exT (f' := DkF p d) (Ψ := fun r M => ∃ q c, r = .slice q (d.read i).length c ∧ M = [RowO Kd.u8 5 q c (d.read i)] ∧ (d.read i).length ≤ c) (dkI0 d) (fun z => (dk_ReadF p d i z hw).mono fun r post ⟨q, c, h1, h2, h3⟩ => ⟨z, [RowO Kd.u8 5 q c (d.read i)], ⟨q, c, h1, rfl, h3⟩, h2⟩)).mono fun r post ⟨M, ⟨q, c, h1, h2, h4⟩, h3⟩ => ⟨q, c, h1, by rw [h3, h2]; rfl, h4⟩
theorem dk_Write (A : HP) (p : Nat) (d : Dk) (i : Int) (qb : Option Addr) (cb : Nat) (b : Sec) (hA : IsRow A Kd.u8 qb b) (hw : d.wf) (hc : d.cnt ≤ 100000000) : Fn Tryz.prog 15 [.pointer (some ⟨p, 0, none⟩), .int .i64 i, .slice qb b.length cb].toArray [A, DkX p d]
    (fun r post => r = .bool (d.write i b).1 ∧ post = [A, DkX p (d.write i b).2]) :=
  (Fn.exM (M0 := [A]) (f' := DkF p (d.write i b).2) (Ψ := fun r M => r = .bool (d.write i b).1 ∧ M = [A]) (dkI0 d) (fun z => (dk_WriteF A p d i qb cb b z hA hw hc).mono fun r post ⟨z', h1, h2⟩ => ⟨z', [A], ⟨h1, rfl⟩, h2⟩)).mono fun r post ⟨M, ⟨h1, h2⟩, h3⟩ => ⟨h1, by rw [h3, h2]; rfl⟩
theorem dk_New (n : Int) : Fn Tryz.prog 11 [.int .i64 n].toArray [] (fun r post => ∃ p, r = .pointer (some ⟨p, 0, none⟩) ∧ post = [DkX p (Dk.new n)]) :=
  ⟨(dk_NewF n).1, fun ρ L w hs => ((dk_NewF n).2 ρ L w hs).mono fun e w' ⟨v, post, he, ⟨p, z, h1, h2⟩, hst⟩ => ⟨v, [DkX p (Dk.new n)], he, ⟨p, h1, rfl⟩, by subst h2; exact St.exI z hst⟩⟩
theorem eq_u8 (A B : HP) (qa qb : Option Addr) (ca cb : Nat) (xs ys : List UInt8) (hA : IsRow A Kd.u8 qa xs) (hB : IsRow B Kd.u8 qb ys) (hl : xs.length ≤ 1000000000) : Fn Tryz.prog 161 [.slice qa xs.length ca, .slice qb ys.length cb].toArray [A, B]
    (fun r post => r = .bool (decide (xs = ys)) ∧ post = [A, B]) := by
  refine Fn.enter (N := 26) Tryz.func161 rfl Tryz.ntmps161 tK rfl (fun ρ L => ?_)
  refine K.seq <| K.region <| KO.q rfl (q_assign rfl) <| KO.done <| K.seq <| K.seq <| K.region <| KO.q rfl (q_move rfl) <| KO.q rfl (q_len Tryz.underlying23 rfl) <| KO.q rfl (q_move rfl) <| KO.q rfl (q_len Tryz.underlying23 rfl) ?_
  refine KO.q rfl (q_ne rfl rfl) <| KO.done ?_
  refine K.dcond (s := 10) rfl (fun g10 => ?_) (fun g10 => ?_)
  · have hne : decide (xs = ys) = false := decide_eq_false fun e => g10 (by rw [e])
    refine K.seq <| K.region <| KO.q rfl (q_assign rfl) <| KO.done ?_
    refine kr1 Tryz.func161 Tryz.results161 rfl (fun w hs => ?_)
    exact ⟨_, [A, B], rfl, ⟨by rw [hne], rfl⟩, hs.fitD⟩
  · have hll : xs.length = ys.length := by omega
    refine K.skip <| K.seq <| K.seq <| K.region <| KO.q rfl (q_move rfl) <| KO.q rfl (q_len Tryz.underlying23 rfl) <| KO.q rfl (q_move rfl) <| KO.done <| K.block ?_
    refine K.rounds2 (ι := { x : Nat // x ≤ xs.length ∧ xs.take x = ys.take x }) (fun x => [(13, .int .i64 x.1), (12, .int .i64 xs.length), (0, .slice qa xs.length ca), (1, .slice qb ys.length cb)]) (fun x => [A, B] ++ L) (fun x => xs.length - x.1) ⟨0, Nat.zero_le _, rfl⟩ tS (fun w h => h.fitD) (fun x ih => ?_)
    obtain ⟨i, hi, ht⟩ := x
    dsimp only at hi ht ⊢
    refine K.seq <| K.region <| KO.q rfl (q_lt rfl rfl) <| KO.done <| K.seq ?_
    refine K.dcond (s := 14) rfl (fun g14 => ?_) (fun g14 => ?_)
    · obtain ⟨a, ha⟩ : ∃ a, xs[i]? = some a := ⟨_, List.getElem?_eq_getElem tO⟩
      obtain ⟨b, hb⟩ : ∃ b, ys[i]? = some b := ⟨_, List.getElem?_eq_getElem tO⟩
      refine K.skip <| K.seq <| K.block <| K.seq <| K.region <| KO.q rfl (q_move rfl) <| KO.q rfl (q_assign rfl) <| KO.done <| K.seq <| K.drawS [A, B] (fun _ h => h.subD) mixed <| dq 0 rfl (q_move rfl) <| dq 1 rfl (q_move rfl) <| dq 2 rfl (q_ix (xs := xs) i se_23 rfl rfl rfl hA tM rfl tO) ?_
      refine dq 3 rfl (q_ldE ck_5 rfl hA tM ha rfl) <| dq 4 rfl (q_move rfl) <| dq 5 rfl (q_move rfl) <| dq 6 rfl (q_ix (xs := ys) i se_23 rfl rfl rfl hB tM rfl tO) <| dq 7 rfl (q_ldE ck_5 rfl hB tM hb rfl) <| dq 8 rfl (q_ne rfl rfl) <| D.done tK ?_
      refine K.dcond (s := 24) rfl (fun g24 => ?_) (fun g24 => ?_)
      · have hne : decide (xs = ys) = false := decide_eq_false fun e => by
          rw [e, hb] at ha; cases ha; exact g24 rfl
        refine K.seq <| K.region <| KO.q rfl (q_assign rfl) <| KO.done ?_
        refine kr1 Tryz.func161 Tryz.results161 rfl (fun w hs => ?_)
        exact ⟨_, [A, B], rfl, ⟨by rw [hne], rfl⟩, hs.fitD⟩
      · have hab : a = b := UInt8.toNat_inj.1 tO
        have hnx : xs.take (i + 1) = ys.take (i + 1) := by rw [List.take_add_one, List.take_add_one, ht, ha, hb, hab]
        refine K.skip <| K.inBlock <| K.region <| KO.q rfl (q_add rfl rfl tN tN) <| KO.q rfl (q_move rfl) <| KO.done ?_
        exact K.weak tS (fun w h => h.fitD) (ih ⟨i + 1, by omega, hnx⟩ (by show xs.length - (i + 1) < xs.length - i; omega))
    · obtain rfl : i = xs.length := by omega
      have hee : decide (xs = ys) = true := decide_eq_true (by rwa [List.take_length, hll, List.take_length] at ht)
      refine K.exit rfl <| K.seq <| K.region <| KO.q rfl (q_assign rfl) <| KO.done ?_
      refine kr1 Tryz.func161 Tryz.results161 rfl (fun w hs => ?_)
      exact ⟨_, [A, B], rfl, ⟨by rw [hee], rfl⟩, hs.fitD⟩
theorem sp_Need (n : Int) (h : n ≤ 9223372036854775807) : Fn Tryz.prog 150 [.int .i64 n].toArray [] (fun r post => r = .int .i64 (need n) ∧ post = []) := by
  refine Fn.enter (N := 9) Tryz.func150 rfl Tryz.ntmps150 tK rfl (fun ρ L => ?_)
  refine K.seq <| K.region <| KO.q rfl (q_assign rfl) <| KO.done <| K.seq <| K.seq <| K.region <| KO.q rfl (q_move rfl) <| KO.q rfl (q_lt rfl rfl) <| KO.done ?_
  refine K.dcond (s := 4) rfl (fun g4 => ?_) (fun g4 => ?_)
  · have hr : need n = 0 := by unfold need; rw [if_pos g4]
    refine K.seq <| K.region <| KO.q rfl (q_assign rfl) <| KO.done ?_
    refine kr1 Tryz.func150 Tryz.results150 rfl (fun w hs => ?_)
    exact ⟨_, [], rfl, ⟨by rw [hr], rfl⟩, hs.fitD⟩
  · have hr : (n - 1).tdiv 64 + 1 = need n := by unfold need; rw [if_neg g4]
    have h2 : 0 ≤ (n - 1).tdiv 64 ∧ (n - 1).tdiv 64 ≤ n - 1 := by rw [Int.tdiv_eq_ediv_of_nonneg tO]; omega
    refine K.skip <| K.seq <| K.region <| KO.q rfl (q_move rfl) <| KO.q rfl (q_sub rfl rfl tN tN) <| KO.q rfl (q_is (q_div rfl rfl tD) (congrArg (Value.int .i64) (wrap_i64 tO tO))) <| KO.q rfl (q_add rfl rfl tN tN) <| KO.q rfl (q_assign rfl) <| KO.done ?_
    refine kr1 Tryz.func150 Tryz.results150 rfl (fun w hs => ?_)
    exact ⟨_, [], rfl, ⟨by rw [hr], rfl⟩, hs.fitD⟩
theorem sp_Is (p : Nat) (d : Dk) (at_ n : Int) (h4 : d.len ≤ 4096) : Fn Tryz.prog 121 [.pointer (some ⟨p, 0, none⟩), .int .i64 at_, .int .i64 n].toArray [DkX p d] (fun r post => r = .bool (d.lies at_ n) ∧ post = [DkX p d]) := by
  refine Fn.enter (N := 23) Tryz.func121 rfl Tryz.ntmps121 tK rfl (fun ρ L => ?_)
  refine K.seq <| K.region <| KO.q rfl (q_assign rfl) <| KO.done <| K.seq <| K.region <| KO.q rfl (q_move rfl) <| KO.q rfl (q_ge rfl rfl) <| KO.q rfl (q_move rfl) ?_
  refine KO.dsplit 9 rfl (fun g9 => ?_) (fun g9 => ?_)
  · refine KO.q rfl (q_move rfl) <| KO.q rfl (q_move rfl) <| KO.loud rfl (OpL.callD rfl (h := dk_Len _ _)) ?_
    rintro _ _ ⟨_, ⟨rfl, rfl⟩, rfl⟩
    refine KO.q rfl (q_le rfl rfl) <| KO.q rfl (q_pickT rfl rfl) <| KO.q rfl (q_move rfl) ?_
    refine KO.dsplit 15 rfl (fun g15 => ?_) (fun g15 => ?_)
    · refine KO.q rfl (q_move rfl) <| KO.q rfl (q_move rfl) <| KO.loud rfl (OpL.callD rfl (h := dk_Len _ _)) ?_
      rintro _ _ ⟨_, ⟨rfl, rfl⟩, rfl⟩
      refine KO.q rfl (q_move rfl) <| KO.q rfl (q_sub rfl rfl tN tN) <| KO.q rfl (q_le rfl rfl) <| KO.q rfl (q_pickT rfl rfl) <| KO.q rfl (q_assign rfl) <| KO.done ?_
      refine kr1 Tryz.func121 Tryz.results121 rfl (fun w hs => ?_)
      exact ⟨_, [DkX p d], rfl, ⟨congrArg Value.bool (by unfold Dk.lies; simp [*]), rfl⟩, hs.fitD⟩
    · refine KO.skip rfl <| KO.skip rfl <| KO.skip rfl <| KO.skip rfl <| KO.skip rfl <| KO.skip rfl <| KO.q rfl (q_pickF rfl rfl) <| KO.q rfl (q_assign rfl) <| KO.done ?_
      refine kr1 Tryz.func121 Tryz.results121 rfl (fun w hs => ?_)
      exact ⟨_, [DkX p d], rfl, ⟨congrArg Value.bool (by unfold Dk.lies; simp [*]), rfl⟩, hs.fitD⟩
  · refine KO.skip rfl <| KO.skip rfl <| KO.skip rfl <| KO.skip rfl <| KO.q rfl (q_pickF rfl rfl) <| KO.q rfl (q_move rfl) <| KO.skip rfl <| KO.skip rfl <| KO.skip rfl <| KO.skip rfl ?_
    refine KO.skip rfl <| KO.skip rfl <| KO.q rfl (q_pickF rfl rfl) <| KO.q rfl (q_assign rfl) <| KO.done ?_
    refine kr1 Tryz.func121 Tryz.results121 rfl (fun w hs => ?_)
    exact ⟨_, [DkX p d], rfl, ⟨congrArg Value.bool (by unfold Dk.lies; simp [*]), rfl⟩, hs.fitD⟩
theorem sp_Fill (A : HP) (q : Option Addr) (c : Nat) (b : List UInt8) (hA : IsRow A Kd.u8 q b) (h0 : 0 < b.length) (hb : b.length ≤ 1000000) : Fn Tryz.prog 197 [.slice q b.length c].toArray [A]
    (fun r post => ∃ q', r = .slice q' (fillB b).length (fillB b).length ∧ post = [RowO Kd.u8 5 q' (fillB b).length (fillB b), A]) := by
  have hfl := fillB_len b
  have hnf := need_fit (n := (b.length : Int)) (Int.natCast_nonneg _)
  have hnn := need_nn (b.length : Int)
  have hfb : (List.replicate (fillB b).length (0 : UInt8)).take 0 ++ b.take b.length ++ (List.replicate (fillB b).length (0 : UInt8)).drop (0 + b.length) = fillB b := by
    rw [List.take_zero, List.nil_append, List.take_length, List.drop_replicate, hfl, Nat.zero_add]; rfl
  refine Fn.enter (N := 13) Tryz.func197 rfl Tryz.ntmps197 tK rfl (fun ρ L => ?_)
  refine K.seq <| K.region <| KO.q rfl (q_assign rfl) <| KO.done <| K.seq <| K.region <| KO.q rfl (q_move rfl) <| KO.q rfl (q_len Tryz.underlying23 rfl) <| KO.loud rfl (OpL.callD rfl (h := sp_Need _ tO)) ?_
  rintro _ _ ⟨_, ⟨rfl, rfl⟩, rfl⟩
  refine KO.q rfl (q_mul rfl rfl tN tN) <| KO.loud rfl (l_make (m := (fillB b).length) Kd.u8 0 se_23 ze_5 rfl (fun _ => rfl) rfl (by rw [hfl]; omega) (by rw [hfl]; omega) (by rw [hfl]; omega)) ?_
  rintro _ _ ⟨q', rfl, rfl⟩
  refine KO.q rfl (q_assign rfl) <| KO.done <| K.seq <| K.region <| KO.q rfl (q_move rfl) <| KO.q rfl (q_move rfl) <| KO.loud rfl (l_copyA (i := 0) (m := b.length) (p := q') (cap := (fillB b).length) Kd.u8 se_23 (by rw [cutAddr_zero]; rfl) rfl tP hA tM rfl (Nat.min_eq_left (by rw [hfl]; omega)) (Nat.zero_le _) (by rw [hfl]; omega) (by rw [hfl]; omega)) ?_
  rintro _ _ ⟨rfl, rfl⟩
  refine KO.done ?_
  rw [hfb]
  refine K.seq <| K.region <| KO.q rfl (q_move rfl) <| KO.q rfl (q_assign rfl) <| KO.done ?_
  refine kr1 Tryz.func197 Tryz.results197 rfl (fun w hs => ?_)
  exact ⟨_, [RowO Kd.u8 5 q' (fillB b).length (fillB b), A], rfl, ⟨q', rfl, rfl⟩, hs.fitD⟩
end Go.Proofs.YtkbhldicnamcdaaGreat.L
namespace Go.Proofs.YtkbhldicnamcdaaGreat.L
open Go Go.Proofs
attribute [local irreducible] pv fv pt fz RowF RowO rowP old pure_ elA
set_option maxRecDepth 100000
set_option linter.unusedSimpArgs false
set_option linter.unusedVariables false
set_option maxHeartbeats 1600000 in
theorem sp_Put (A : HP) (p : Nat) (d : Dk) (at_ : Int) (q : Option Addr) (c : Nat) (b : List UInt8) (hA : IsRow A Kd.u8 q b) (hw : d.wf) (hc : d.cnt ≤ 90000000) (hb : b.length ≤ 1000000) : Fn Tryz.prog 142 [.pointer (some ⟨p, 0, none⟩), .int .i64 at_, .slice q b.length c].toArray [A, DkX p d]
    (fun r post => r = .bool (d.spanPut at_ b).1 ∧ post = [A, DkX p (d.spanPut at_ b).2]) := by
  have h4 := hw.len
  have hfl := fillB_len b
  have hnf := need_fit (n := (b.length : Int)) (Int.natCast_nonneg _)
  have hnn := need_nn (b.length : Int)
  refine Fn.enter (N := 33) Tryz.func142 rfl Tryz.ntmps142 tK rfl (fun ρ L => ?_)
  refine K.seq <| K.region <| KO.q rfl (q_assign rfl) <| KO.done <| K.seq <| K.seq <| K.region <| KO.q rfl (q_move rfl) <| KO.q rfl (q_len Tryz.underlying23 rfl) <| KO.q rfl (q_eq rfl rfl) <| KO.done ?_
  refine K.dcond (s := 10) rfl (fun g10 => ?_) (fun g10 => ?_)
  · have hr : d.spanPut at_ b = (true, d) := by unfold Dk.spanPut; rw [if_pos g10]
    refine K.seq <| K.region <| KO.q rfl (q_assign rfl) <| KO.done ?_
    refine kr1 Tryz.func142 Tryz.results142 rfl (fun w hs => ?_)
    rw [hr]
    exact ⟨_, [A, DkX p d], rfl, ⟨rfl, rfl⟩, hs.fitD⟩
  · refine K.skip <| K.seq <| K.seq <| K.region <| KO.q rfl (q_move rfl) <| KO.q rfl (q_move rfl) <| KO.q rfl (q_move rfl) <| KO.q rfl (q_len Tryz.underlying23 rfl) <| KO.loud rfl (OpL.callD rfl (h := sp_Need _ tO)) ?_
    rintro _ _ ⟨_, ⟨rfl, rfl⟩, rfl⟩
    refine KO.loud rfl (OpL.callD rfl (h := sp_Is _ _ _ _ (by assumption))) ?_
    rintro _ _ ⟨_, ⟨rfl, rfl⟩, rfl⟩
    refine KO.q rfl (q_not rfl) <| KO.done ?_
    refine K.bcond (s := 17) rfl (fun g17 => ?_) (fun g17 => ?_)
    · have hr : d.spanPut at_ b = (false, d) := by unfold Dk.spanPut; rw [if_neg g10, if_neg (by simpa using g17)]
      refine K.seq <| K.region <| KO.q rfl (q_assign rfl) <| KO.done ?_
      refine kr1 Tryz.func142 Tryz.results142 rfl (fun w hs => ?_)
      rw [hr]
      exact ⟨_, [A, DkX p d], rfl, ⟨rfl, rfl⟩, hs.fitD⟩
    · have hly : d.lies at_ (need b.length) = true := by simpa using g17
      have hr : d.spanPut at_ b = d.puts at_ (secsOf b) := by unfold Dk.spanPut; rw [if_neg g10, if_pos hly]
      have hly2 : 0 ≤ at_ ∧ at_ ≤ (d.len : Int) ∧ need b.length ≤ (d.len : Int) - at_ := by
        unfold Dk.lies at hly
        simp only [Bool.and_eq_true, decide_eq_true_eq] at hly
        exact ⟨hly.1.1, hly.1.2, hly.2⟩
      obtain ⟨m, hm⟩ : ∃ m : Nat, need b.length = (m : Int) := ⟨_, (Int.toNat_of_nonneg hnn).symm⟩
      rw [hm] at hfl hnf hly2
      rw [Int.toNat_natCast] at hfl
      have hse : secsOf b = secs m (fillB b) := by unfold secsOf; rw [hm]; rfl
      refine K.skip <| K.seq <| K.seq <| K.region <| KO.q rfl (q_move rfl) <| KO.loud rfl (OpL.callD rfl (h := sp_Fill A q c b hA tO hb)) ?_
      rintro _ _ ⟨_, ⟨q', rfl, rfl⟩, rfl⟩
      refine KO.st (fun w h => rowO_freeze (h.pick tP)) <| KO.q rfl (q_assign rfl) <| KO.done <| K.block ?_
      refine K.rounds2 (ι := { x : Nat × (Option Addr × Nat) × List UInt8 × Dk // x.1 ≤ m ∧ x.2.2.1.length = (m - x.1) * 64 ∧ x.2.2.1.length ≤ x.2.1.2 ∧ d.puts at_ (secs m (fillB b)) = x.2.2.2.puts (at_ + x.1) (secs (m - x.1) x.2.2.1) ∧ x.2.2.2.wf ∧ x.2.2.2.cnt ≤ d.cnt + x.1 ∧ x.2.2.2.len = d.len }) (fun x => [(7, .slice x.1.2.1.1 x.1.2.2.1.length x.1.2.1.2), (1, .int .i64 (at_ + x.1.1)), (0, .pointer (some ⟨p, 0, none⟩))]) (fun x => [A, DkX p x.1.2.2.2, RowF Kd.u8 x.1.2.1.1 x.1.2.2.1] ++ L) (fun x => m - x.1.1) ⟨(0, (q', (fillB b).length), fillB b, d), Nat.zero_le _, by show _ = (m - 0) * 64; omega, Nat.le_refl _, by show _ = d.puts (at_ + (0 : Nat)) (secs (m - 0) (fillB b)); rw [Nat.sub_zero]; congr 1; omega, hw, Nat.le_refl _, rfl⟩ (Env.sub_cons rfl (Env.sub_cons (by show _ = some (Value.int .i64 (at_ + (0 : Nat))); refine congrArg (fun z => some (Value.int .i64 z)) ?_; omega) (Env.sub_cons rfl (Env.sub_nil _)))) (fun w h => h.fitD) (fun x ih => ?_)
      obtain ⟨⟨j, ⟨q1, c1⟩, rest, d1⟩, hj, hrl, hrc, hpt, hw1, hc1, hl1⟩ := x
      dsimp only at hj hrl hrc hpt hw1 hc1 hl1 ⊢
      refine K.seq <| K.seq <| K.region <| KO.q rfl (q_move rfl) <| KO.q rfl (q_len Tryz.underlying23 rfl) <| KO.q rfl (q_gt rfl rfl) <| KO.done ?_
      refine K.dcond (s := 22) rfl (fun g22 => ?_) (fun g22 => ?_)
      · have hjm : j < m := by
          rcases Nat.lt_or_ge j m with h | h
          · exact h
          · exfalso
            have : m - j = 0 := by omega
            rw [this] at hrl; omega
        have h64 : (rest.take 64).length = 64 := by rw [List.length_take]; omega
        have hss : secs (m - j) rest = rest.take 64 :: secs (m - (j + 1)) (rest.drop 64) := by
          obtain ⟨k, hk⟩ : ∃ k, m - j = k + 1 := ⟨m - j - 1, by omega⟩
          rw [hk, show m - (j + 1) = k by omega]; rfl
        rw [hss, Dk.puts_cons] at hpt
        refine K.st (fun w h => rowF_take (k := Kd.u8) (p := q1) (xs := rest) 64 tM h) <| K.skip <| K.seq <| K.block <| K.seq <| K.seq <| K.region <| KO.q rfl (q_move rfl) <| KO.q rfl (q_move rfl) <| KO.q rfl (q_move rfl) <| KO.q rfl (q_is (q_cutH se_23 rfl rfl tD tO) (show Value.slice q1 (64 : Int).toNat c1 = Value.slice q1 (rest.take 64).length c1 by rw [h64]; rfl)) <| KO.loud rfl (OpL.callD rfl (h := dk_Write (RowF Kd.u8 q1 (rest.take 64)) p d1 (at_ + j) q1 c1 (rest.take 64) isF hw1 tO)) ?_
        rintro _ _ ⟨_, ⟨rfl, rfl⟩, rfl⟩
        refine KO.q rfl (q_not rfl) <| KO.done ?_
        refine K.bcond (s := 30) rfl (fun g30 => ?_) (fun g30 => ?_)
        · have hwf : (d1.write (at_ + j) (rest.take 64)).1 = false := by simpa using g30
          rw [if_neg (by rw [hwf]; decide)] at hpt
          refine K.seq <| K.region <| KO.q rfl (q_assign rfl) <| KO.done ?_
          refine kr1 Tryz.func142 Tryz.results142 rfl (fun w hs => ?_)
          rw [hr, hse, hpt]
          exact ⟨_, [A, DkX p (d1.write (at_ + j) (rest.take 64)).2], rfl, ⟨rfl, rfl⟩, hs.fitD⟩
        · have hwt : (d1.write (at_ + j) (rest.take 64)).1 = true := by simpa using g30
          rw [if_pos hwt] at hpt
          have hc2 := d1.write_cnt (at_ + j) (rest.take 64)
          have hd2 : (rest.drop 64).length = (m - (j + 1)) * 64 := by rw [List.length_drop]; omega
          have hd3 : rest.length - 64 = (rest.drop 64).length := by rw [List.length_drop]
          refine K.skip <| K.region <| KO.q rfl (q_move rfl) <| KO.q rfl (q_add rfl rfl tN tN) <| KO.q rfl (q_assign rfl) <| KO.done <| K.inBlock <| K.region <| KO.q rfl (q_move rfl) <| KO.q rfl (q_is (q_cutL se_23 rfl rfl tD tO tO) (show Value.slice (cutAddr q1 c1 (64 : Int).toNat 1) (rest.length - (64 : Int).toNat) (c1 - (64 : Int).toNat) = Value.slice (cutAddr q1 c1 64 1) (rest.drop 64).length (c1 - 64) by rw [← hd3]; rfl)) ?_
          refine KO.q rfl (q_assign rfl) <| KO.done <| K.st (fun w h => rowF_cut (k := Kd.u8) (p := q1) (xs := rest) (cap := c1) 64 hrc tM h) ?_
          exact K.weak (Env.sub_cons rfl (Env.sub_cons (by show _ = some (Value.int .i64 (at_ + ((j + 1 : Nat) : Int))); refine congrArg (fun z => some (Value.int .i64 z)) ?_; omega) (Env.sub_cons rfl (Env.sub_nil _)))) (fun w h => h.fitD) (ih ⟨(j + 1, (cutAddr q1 c1 64 1, c1 - 64), rest.drop 64, (d1.write (at_ + j) (rest.take 64)).2), by show j + 1 ≤ m; omega, hd2, by show (rest.drop 64).length ≤ c1 - 64; omega, by show _ = Dk.puts _ (at_ + ((j + 1 : Nat) : Int)) _; rw [hpt]; congr 1; omega, hw1.write _ _, by show (d1.write (at_ + j) (rest.take 64)).2.cnt ≤ d.cnt + (j + 1); omega, by show (Dk.write _ _ _).2.len = _; rw [Dk.write_len, hl1]⟩ (by show m - (j + 1) < m - j; omega))
      · have hjm : j = m := by omega
        subst hjm
        rw [Nat.sub_self] at hpt
        have hpt : d.puts at_ (secs j (fillB b)) = (true, d1) := hpt
        clear ih
        refine K.exit rfl <| K.seq <| K.region <| KO.q rfl (q_assign rfl) <| KO.done ?_
        refine kr1 Tryz.func142 Tryz.results142 rfl (fun w hs => ?_)
        rw [hr, hse, hpt]
        exact ⟨_, [A, DkX p d1], rfl, ⟨rfl, rfl⟩, hs.fitD⟩
set_option maxHeartbeats 1600000 in
theorem sp_Get (p : Nat) (d : Dk) (at_ n : Int) (hw : d.wf) : Fn Tryz.prog 162 [.pointer (some ⟨p, 0, none⟩), .int .i64 at_, .int .i64 n].toArray [DkX p d]
    (fun r post => ∃ q c, r = .slice q (d.spanGet at_ n).length c ∧ post = [RowF Kd.u8 q (d.spanGet at_ n), DkX p d] ∧ (d.spanGet at_ n).length ≤ c) := by
  have h4 := hw.len
  obtain ⟨k, hk, hk2⟩ : ∃ k : Nat, max 0 (if (262144 : Int) < n then (262144 : Int) else n) = (k : Int) ∧ Dk.cutN n = (k : Int) := ⟨(Dk.cutN n).toNat, by unfold Dk.cutN; split <;> omega, by unfold Dk.cutN; omega⟩
  have hkl : k ≤ 262144 := by unfold Dk.cutN at hk2; omega
  have hnn := need_nn (k : Int)
  have hnf := need_fit (n := (k : Int)) (Int.natCast_nonneg _)
  refine Fn.enter (N := 34) Tryz.func162 rfl Tryz.ntmps162 tK rfl (fun ρ L => ?_)
  refine K.seq <| K.region <| KO.q rfl (q_assign rfl) <| KO.done <| K.seq <| K.region <| KO.q rfl (q_move rfl) <| KO.q rfl (q_min rfl rfl) <| KO.q rfl (q_max rfl rfl) <| KO.q rfl (q_assign rfl) ?_
  refine KO.done ?_
  rw [hk]
  refine K.seq <| K.seq <| K.region <| KO.q rfl (q_move rfl) <| KO.q rfl (q_move rfl) <| KO.q rfl (q_move rfl) <| KO.loud rfl (OpL.callD rfl (h := sp_Need _ tO)) ?_
  rintro _ _ ⟨_, ⟨rfl, rfl⟩, rfl⟩
  refine KO.loud rfl (OpL.callD rfl (h := sp_Is _ _ _ _ (by assumption))) ?_
  rintro _ _ ⟨_, ⟨rfl, rfl⟩, rfl⟩
  refine KO.q rfl (q_not rfl) <| KO.done ?_
  refine K.bcond (s := 17) rfl (fun g17 => ?_) (fun g17 => ?_)
  · have hr : d.spanGet at_ n = [] := by unfold Dk.spanGet; rw [hk2, if_neg (by simpa using g17)]
    refine K.seq <| K.region <| KO.q rfl (q_assign rfl) <| KO.done ?_
    refine kr1 Tryz.func162 Tryz.results162 rfl (fun w hs => ?_)
    rw [hr]
    exact ⟨_, [RowF Kd.u8 none [], DkX p d], rfl, ⟨none, 0, rfl, rfl, Nat.le_refl _⟩, (rowF_nil (k := Kd.u8) none hs).fitD⟩
  · have hly : d.lies at_ (need k) = true := by simpa using g17
    have hly2 : 0 ≤ at_ ∧ at_ ≤ (d.len : Int) ∧ need k ≤ (d.len : Int) - at_ := by
      unfold Dk.lies at hly
      simp only [Bool.and_eq_true, decide_eq_true_eq] at hly
      exact ⟨hly.1.1, hly.1.2, hly.2⟩
    obtain ⟨m, hm⟩ : ∃ m : Nat, need k = (m : Int) := ⟨_, (Int.toNat_of_nonneg hnn).symm⟩
    rw [hm] at hnf hly2
    have hr : d.spanGet at_ n = (d.reads at_ m).take k := by unfold Dk.spanGet; rw [hk2, if_pos hly, hm]; rfl
    have hrl := Dk.reads_len hw m hly2.1 tO
    refine K.skip <| K.seq <| K.region <| KO.q rfl (q_assign rfl) <| KO.done <| K.seq <| K.seq <| K.region <| KO.q rfl (q_move rfl) <| KO.loud rfl (OpL.callD rfl (h := sp_Need _ tO)) ?_
    rintro _ _ ⟨_, ⟨rfl, rfl⟩, rfl⟩
    refine KO.q rfl (q_move rfl) <| KO.done ?_
    rw [hm]
    refine K.block ?_
    refine K.rounds2 (ι := { x : Nat × Option Addr × Nat // x.1 ≤ m }) (fun x => [(20, .int .i64 x.1.1), (19, .int .i64 m), (7, .slice x.1.2.1 (d.reads at_ x.1.1).length x.1.2.2), (0, .pointer (some ⟨p, 0, none⟩)), (1, .int .i64 at_), (2, .int .i64 k)]) (fun x => [DkX p d, RowO Kd.u8 5 x.1.2.1 x.1.2.2 (d.reads at_ x.1.1)] ++ L) (fun x => m - x.1.1) ⟨(0, none, 0), Nat.zero_le _⟩ tS (fun w h => (rowO_nil (k := Kd.u8) 5 h).fitD) (fun x ih => ?_)
    obtain ⟨⟨i, q1, c1⟩, hi⟩ := x
    dsimp only at hi ⊢
    refine K.seq <| K.region <| KO.q rfl (q_lt rfl rfl) <| KO.done <| K.seq ?_
    refine K.dcond (s := 21) rfl (fun g21 => ?_) (fun g21 => ?_)
    · have hle := Dk.reads_le hw at_ i
      have hle2 := Dk.read_le hw (at_ + i)
      have hsu := d.reads_succ at_ i
      refine K.skip <| K.seq <| K.block <| K.seq <| K.region <| KO.q rfl (q_move rfl) <| KO.q rfl (q_assign rfl) <| KO.done <| K.region <| KO.q rfl (q_move rfl) <| KO.q rfl (q_move rfl) <| KO.q rfl (q_move rfl) <| KO.q rfl (q_move rfl) ?_
      refine KO.q rfl (q_add rfl rfl tN tN) <| KO.loud rfl (OpL.callD rfl (h := dk_Read p d (at_ + i) hw)) ?_
      rintro _ _ ⟨_, ⟨qr, cr, rfl, rfl, hqr⟩, rfl⟩
      refine KO.loud rfl (l_append Kd.u8 (ys := d.read (at_ + i)) se_23 Tryz.underlying23 ⟨_, ze_5, rfl⟩ tD rfl rfl tP isO tM rfl rfl (by show (2 * ((d.reads at_ i).length + (d.read (at_ + i)).length) + 768) * _ ≤ _; omega)) ?_
      rintro _ _ ⟨q2, c2, rfl, rfl⟩
      refine KO.q rfl (q_assign rfl) <| KO.done <| K.inBlock <| K.region <| KO.q rfl (q_add rfl rfl tN tN) <| KO.q rfl (q_move rfl) <| KO.done ?_
      rw [← hsu]
      exact K.weak tS (fun w h => h.fitD) (ih ⟨(i + 1, q2, c2), by show i + 1 ≤ _; omega⟩ (by show m - (i + 1) < m - i; omega))
    · obtain rfl : i = m := by omega
      have htl : ((d.reads at_ i).take k).length = k := by rw [List.length_take, hrl]; omega
      refine K.fact (rowO_cap (k := Kd.u8) (e := 5) (p := q1) (cap := c1) (xs := d.reads at_ i) tM) (fun hcp => ?_)
      refine K.st (fun w h => rowO_freeze (k := Kd.u8) (e := 5) (p := q1) (cap := c1) (xs := d.reads at_ i) (h.pick tP)) <| K.st (fun w h => rowF_take (k := Kd.u8) (p := q1) (xs := d.reads at_ i) k tM h) ?_
      clear ih
      refine K.exit rfl <| K.seq <| K.region <| KO.q rfl (q_move rfl) <| KO.q rfl (q_move rfl) <| KO.q rfl (q_is (q_cutH se_23 rfl rfl tO tO) (show Value.slice q1 (k : Int).toNat c1 = Value.slice q1 ((d.reads at_ i).take k).length c1 by rw [htl]; rfl)) <| KO.q rfl (q_assign rfl) <| KO.done ?_
      refine kr1 Tryz.func162 Tryz.results162 rfl (fun w hs => ?_)
      rw [hr]
      exact ⟨_, [RowF Kd.u8 q1 ((d.reads at_ i).take k), DkX p d], rfl, ⟨q1, c1, rfl, rfl, by omega⟩, hs.fitD⟩
end Go.Proofs.YtkbhldicnamcdaaGreat.L
namespace Go.Proofs.YtkbhldicnamcdaaGreat.L
open Go
abbrev DM := Dk → Bool × Dk
def DM.also (f g : DM) : DM := fun d => if (f d).1 = true then g (f d).2 else (false, (f d).2)
structure DM.Ok (f : DM) (n : Nat) : Prop where
  len : ∀ d, (f d).2.len = d.len
  wf : ∀ d, d.wf → (f d).2.wf
  cnt : ∀ d, d.cnt ≤ (f d).2.cnt ∧ (f d).2.cnt ≤ d.cnt + n
theorem DM.Ok.also {f g : DM} {n m : Nat} (hf : f.Ok n) (hg : g.Ok m) : (f.also g).Ok (n + m) := by
  refine ⟨fun d => ?_, fun d h => ?_, fun d => ?_⟩ <;> unfold DM.also
  · split
    · rw [hg.len, hf.len]
    · exact hf.len d
  · split
    · exact hg.wf _ (hf.wf d h)
    · exact hf.wf d h
  · have := hf.cnt d
    split
    · have := hg.cnt (f d).2
      omega
    · show d.cnt ≤ (f d).2.cnt ∧ (f d).2.cnt ≤ _
      omega
theorem ok_write (i : Int) (b : Sec) : DM.Ok (fun d => d.write i b) 1 := ⟨fun d => d.write_len i b, fun _ h => h.write i b, fun d => d.write_cnt i b⟩
theorem ok_sync : DM.Ok Dk.sync 0 := ⟨Dk.sync_len, fun _ h => h.sync, fun d => by rw [Dk.sync_cnt]; exact ⟨Nat.le_refl _, Nat.le_refl _⟩⟩
theorem ok_put (i : Int) (b : List UInt8) : DM.Ok (fun d => d.spanPut i b) (need b.length).toNat := ⟨fun d => d.spanPut_len i b, fun _ h => h.spanPut i b, fun d => d.spanPut_cnt i b⟩
theorem DM.Ok.mono {f : DM} {n m : Nat} (h : f.Ok n) (hm : n ≤ m) : f.Ok m := ⟨h.len, h.wf, fun d => ⟨(h.cnt d).1, Nat.le_trans (h.cnt d).2 tO⟩⟩
def recT : ByteArray := ⟨#[114, 101, 99]⟩
def rootT : ByteArray := ⟨#[114, 111, 111, 116]⟩
def lgHead (epoch number size : Int) : Sec := fillB (wText recT ++ wInt epoch ++ wInt number ++ wInt size)
def rootS (epoch size : Int) : Sec := fillB (wText rootT ++ wInt epoch ++ wInt size)
theorem head_raw (e k s : Int) : (wText recT ++ wInt e ++ wInt k ++ wInt s).length = 29 := by
  simp only [List.length_append, wText_length, wInt_length]; rfl
theorem root_raw (e s : Int) : (wText rootT ++ wInt e ++ wInt s).length = 22 := by
  simp only [List.length_append, wText_length, wInt_length]; rfl
theorem lgHead_len (e k s : Int) : (lgHead e k s).length = 64 := by
  unfold lgHead; rw [fillB_len, head_raw]; rfl
theorem rootS_len (e s : Int) : (rootS e s).length = 64 := by
  unfold rootS; rw [fillB_len, root_raw]; rfl
structure Lg where
  at_ : Int
  end_ : Int
  next : Int
  epoch : Int
  recs : List (List UInt8)
  failed : Bool
namespace Lg
def fits (g : Lg) (size : Int) : Bool := decide (1 ≤ g.end_ - g.next) && decide (need size ≤ g.end_ - g.next - 1)
def size (b : Sec) : Int := (((((⟨b, false⟩ : Rd).text).2.int).2.int).2.int).1
def step (d : Dk) (g : Lg) : Bool × Lg :=
  if (decide (size (d.read g.next) < 0) || !g.fits (size (d.read g.next)) || !decide (d.read g.next = lgHead g.epoch (g.recs.length + 1) (size (d.read g.next)))) = true then (false, g)
  else (true, { g with recs := g.recs ++ [d.spanGet (g.next + 1) (size (d.read g.next))], next := g.next + 1 + need (size (d.read g.next)) })
def scan (d : Dk) : Nat → Lg → Lg
  | 0, g => g
  | n + 1, g => if g.fits 0 = true then (if (step d g).1 = true then scan d n (step d g).2 else g) else g
def opened (d : Dk) (at_ n epoch : Int) : Lg := scan d n.toNat ⟨at_, at_ + n, at_, epoch, [], false⟩
def room (g : Lg) : Int := max 0 (g.end_ - g.next - 1) * 64
def behind (g : Lg) (b : List UInt8) : Int := g.next + 1 + need b.length
def lay (g : Lg) (b : List UInt8) : DM :=
  DM.also (fun d => d.spanPut (g.next + 1) b) <| DM.also (fun d => if g.behind b < g.end_ then d.write (g.behind b) zSec else (true, d)) <|
  DM.also Dk.sync <| DM.also (fun d => d.write g.next (lgHead g.epoch (g.recs.length + 1) b.length)) Dk.sync
def append (g : Lg) (b : List UInt8) (d : Dk) : Int × Lg × Dk :=
  if g.failed = true then (12, g, d)
  else if g.fits b.length = false then (6, g, d)
  else if (g.lay b d).1 = true then (0, { g with recs := g.recs ++ [b], next := g.next + 1 + need b.length }, (g.lay b d).2)
  else (12, { g with failed := true }, (g.lay b d).2)
theorem ok_lay (g : Lg) (b : List UInt8) : (g.lay b).Ok ((need b.length).toNat + 2) := by
  have h2 : DM.Ok (fun d => if g.behind b < g.end_ then d.write (g.behind b) zSec else (true, d)) 1 := by
    by_cases h : g.behind b < g.end_
    · simp only [if_pos h]; exact ok_write _ _
    · simp only [if_neg h]; exact ⟨fun _ => rfl, fun _ h => h, fun _ => ⟨Nat.le_refl _, Nat.le_succ _⟩⟩
  exact ((ok_put _ _).also (h2.also (ok_sync.also ((ok_write _ _).also ok_sync)))).mono tO
theorem append_cnt (g : Lg) (b : List UInt8) (d : Dk) : d.cnt ≤ (g.append b d).2.2.cnt ∧ (g.append b d).2.2.cnt ≤ d.cnt + ((need b.length).toNat + 2) := by
  unfold append
  split
  · exact ⟨Nat.le_refl _, Nat.le_add_right _ _⟩
  · split
    · exact ⟨Nat.le_refl _, Nat.le_add_right _ _⟩
    · split <;> exact (g.ok_lay b).cnt d
structure wf (g : Lg) : Prop where
  nx : g.at_ ≤ g.next ∧ g.next ≤ g.end_
  pl : 0 ≤ g.at_ ∧ g.end_ ≤ 4096
  cnt : (g.recs.length : Int) ≤ g.next - g.at_
  sz : ∀ b ∈ g.recs, b.length ≤ 262144
  tot : (((g.recs.map List.length).sum : Nat) : Int) ≤ 64 * (g.next - g.at_)
theorem wf.len {g : Lg} (h : g.wf) : g.recs.length ≤ 4096 := by
  have := h.nx; have := h.pl; have := h.cnt; omega
theorem fits_iff {g : Lg} {n : Int} : g.fits n = true ↔ 1 ≤ g.end_ - g.next ∧ need n ≤ g.end_ - g.next - 1 := by
  unfold fits; rw [Bool.and_eq_true, decide_eq_true_eq, decide_eq_true_eq]
theorem fits_need {g : Lg} (h : g.wf) {n : Int} (hf : g.fits n = true) : need n ≤ 4095 := by
  have := fits_iff.1 hf; have := h.nx; have := h.pl; omega
theorem fits_size {g : Lg} (h : g.wf) {n : Int} (h0 : 0 ≤ n) (hf : g.fits n = true) : n ≤ 262080 := by
  have := fits_need h hf; have := need_fit h0; omega
theorem step_wf {d : Dk} (hd : d.wf) {g : Lg} (h : g.wf) : (step d g).2.wf := by
  unfold step
  split
  · exact h
  · rename_i hc
    simp only [Bool.or_eq_true, Bool.not_eq_true', decide_eq_true_eq, not_or, Bool.not_eq_false, Int.not_lt] at hc
    have hf := fits_iff.1 hc.1.2
    have := need_nn (size (d.read g.next))
    refine ⟨⟨by show g.at_ ≤ g.next + 1 + _; have := h.nx; omega, by show g.next + 1 + _ ≤ g.end_; omega⟩, h.pl, ?_, ?_, ?_⟩
    · show ((g.recs ++ [_]).length : Int) ≤ g.next + 1 + _ - g.at_
      rw [List.length_append, List.length_singleton]
      have := h.cnt; omega
    · intro b hb
      rcases List.mem_append.1 hb with hb | hb
      · exact h.sz b hb
      · rw [List.mem_singleton.1 hb]; exact Dk.spanGet_le hd _ _
    · show ((((g.recs ++ [_]).map List.length).sum : Nat) : Int) ≤ 64 * (g.next + 1 + _ - g.at_)
      rw [List.map_append, List.sum_append, List.map_singleton, List.sum_singleton]
      have h1 := h.tot
      have h2 := Dk.spanGet_cut d (g.next + 1) (size (d.read g.next))
      have h3 := need_fit (n := size (d.read g.next)) tO
      have h4 : Dk.cutN (size (d.read g.next)) ≤ size (d.read g.next) := by unfold Dk.cutN; omega
      omega
theorem step_end (d : Dk) (g : Lg) : (step d g).2.end_ = g.end_ := by unfold step; split <;> rfl
theorem step_down {d : Dk} {g : Lg} (h : (step d g).1 = true) : g.next < (step d g).2.next := by
  unfold step at h ⊢
  split
  · rename_i hc; rw [if_pos hc] at h; cases h
  · have := need_nn (size (d.read g.next))
    show g.next < g.next + 1 + _; omega
theorem scan_wf {d : Dk} (hd : d.wf) : ∀ (n : Nat) {g : Lg}, g.wf → (scan d n g).wf
  | 0, _, h => h
  | n + 1, g, h => by
    unfold scan
    split
    · split
      · exact scan_wf hd n (step_wf hd h)
      · exact h
    · exact h
theorem opened_wf {d : Dk} (hd : d.wf) {at_ n epoch : Int} (h0 : 0 ≤ at_) (hn : 0 ≤ n) (h1 : at_ + n ≤ 4096) : (opened d at_ n epoch).wf :=
  scan_wf hd _ ⟨⟨Int.le_refl _, by show at_ ≤ at_ + n; omega⟩, ⟨h0, h1⟩, by show (0 : Int) ≤ at_ - at_; omega, (fun b hb => by cases hb), by show (0 : Int) ≤ 64 * (at_ - at_); omega⟩
end Lg
theorem i64_bounds (n : Int) : -9223372036854775808 ≤ i64 n ∧ i64 n ≤ 9223372036854775807 := by unfold i64; omega
theorem Rd.int_bounds (s : Rd) : -9223372036854775808 ≤ s.int.1 ∧ s.int.1 ≤ 9223372036854775807 := i64_bounds _
def bit0 (n : Int) : Int := n % 2
def rtPlace (epoch : Int) : Int := 2 + bit0 epoch * 96
def rtSize (b : Sec) : Int × Int := ((((⟨b, false⟩ : Rd).text).2.int).1, ((((⟨b, false⟩ : Rd).text).2.int).2.int).1)
def rtOne (d : Dk) (which : Int) : Option (Int × List UInt8) :=
  let e := (rtSize (d.read which)).1; let n := (rtSize (d.read which)).2
  if (decide (e < 1) || decide (¬ bit0 e = which) || decide (n < 0) || decide (6144 < n) || !decide (d.read which = rootS e n) || !d.lies (rtPlace e) (need n)) = true then none
  else some (e, d.spanGet (rtPlace e) n)
def rtRead (d : Dk) : Option (Int × List UInt8) :=
  match rtOne d 1 with
  | some p => if ((rtOne d 0).map (·.1)).getD 0 < p.1 then some p else rtOne d 0
  | none => rtOne d 0
def rtLay (epoch : Int) (b : List UInt8) : DM :=
  DM.also (fun d => d.spanPut (rtPlace epoch) b) <| DM.also Dk.sync <| DM.also (fun d => d.write (bit0 epoch) (rootS epoch b.length)) Dk.sync
def rtWrite (epoch : Int) (b : List UInt8) (d : Dk) : Int × Dk :=
  if epoch < 1 then (1, d) else if 6144 < (b.length : Int) then (6, d) else if (rtLay epoch b d).1 = true then (0, (rtLay epoch b d).2) else (12, (rtLay epoch b d).2)
theorem ok_rtLay (epoch : Int) (b : List UInt8) : (rtLay epoch b).Ok ((need b.length).toNat + 1) :=
  ((ok_put _ _).also (ok_sync.also ((ok_write _ _).also ok_sync))).mono tO
theorem rtWrite_len (epoch : Int) (b : List UInt8) (d : Dk) : (rtWrite epoch b d).2.len = d.len := by
  unfold rtWrite
  split
  · rfl
  · split
    · rfl
    · split <;> exact (ok_rtLay epoch b).len d
theorem rtWrite_wf (epoch : Int) (b : List UInt8) {d : Dk} (h : d.wf) : (rtWrite epoch b d).2.wf := by
  unfold rtWrite
  split
  · exact h
  · split
    · exact h
    · split <;> exact (ok_rtLay epoch b).wf d h
theorem rtWrite_cnt (epoch : Int) (b : List UInt8) (d : Dk) : d.cnt ≤ (rtWrite epoch b d).2.cnt ∧ (rtWrite epoch b d).2.cnt ≤ d.cnt + 97 := by
  unfold rtWrite
  split
  · exact ⟨Nat.le_refl _, Nat.le_add_right _ _⟩
  · split
    · exact ⟨Nat.le_refl _, Nat.le_add_right _ _⟩
    · rename_i hb
      have h1 := (ok_rtLay epoch b).cnt d
      have h2 : need b.length ≤ 96 := by
        by_cases h : (b.length : Int) < 1
        · unfold need; rw [if_pos h]; decide
        · rw [need_pos tO]; omega
      split <;> (show d.cnt ≤ (rtLay epoch b d).2.cnt ∧ (rtLay epoch b d).2.cnt ≤ _; omega)
end Go.Proofs.YtkbhldicnamcdaaGreat.L
namespace Go.Proofs.YtkbhldicnamcdaaGreat.L
open Go Go.Proofs
attribute [local irreducible] pv fv pt fz RowF RowO rowP old pure_
set_option maxRecDepth 100000
set_option linter.unusedSimpArgs false
set_option linter.unusedVariables false
structure Msg where
  id : Int
  pri : Int
  retry : Int
  claimed : Bool
  corr : ByteArray
  body : ByteArray
def Msg.cells (x : Msg) : List Value := [.int .i64 x.id, .int .i64 x.pri, .int .i64 x.retry, .bool x.claimed, .string x.corr, .string x.body]
def Kd.msg : Kd Msg := Kd.flat 6 Msg.cells (fun _ => rfl) (fun _ v h => by simp [Msg.cells] at h; rcases h with rfl | rfl | rfl | rfl | rfl | rfl <;> rfl)
theorem msg_one (x : Msg) : ∀ v ∈ x.cells, v.oneCell' = true := fun v h => by simp [Msg.cells] at h; rcases h with rfl | rfl | rfl | rfl | rfl | rfl <;> rfl
def Msg.right (m : Msg) : Bool := decide (1 ≤ m.id) && decide (m.id ≤ 1099511627776) && decide (-1000 ≤ m.pri) && decide (m.pri ≤ 1000) && decide (0 ≤ m.retry) && decide (m.retry ≤ 1000) && decide ((m.corr.size : Int) ≤ 40) && decide ((m.body.size : Int) ≤ 100)
theorem msg_Right (m : Msg) : Fn Tryz.prog 175 [.agg m.cells.toArray].toArray [] (fun v post => v = .bool m.right ∧ post = []) := message_Right m.id m.pri m.retry m.claimed m.corr m.body
def Msg.tried (m : Msg) : Msg := { m with claimed := false, retry := (if 999 < m.retry then 999 else m.retry) + 1 }
theorem msg_Tried (m : Msg) (limit : Int) (h0 : -9223372036854775808 ≤ m.retry) : Fn Tryz.prog 217 [.agg m.cells.toArray, .int .i64 limit].toArray [] (fun v post => v = .tuple #[.agg m.tried.cells.toArray, .bool (decide (limit ≤ m.tried.retry))] ∧ post = []) := by
  obtain ⟨id, pri, retry, claimed, corr, body⟩ := m
  replace h0 : -9223372036854775808 ≤ retry := h0
  refine Fn.enter (N := 17) Tryz.func217 rfl Tryz.ntmps217 tK rfl (fun ρ L => ?_)
  repeat (first | refine K.seq ?_ | refine K.skip ?_ | refine K.block ?_ | refine K.inBlock ?_ | refine K.label ?_)
  refine K.region <| KO.loud rfl (l_box rfl rfl) ?_
  rintro _ _ ⟨b2, rfl, rfl⟩
  refine KO.loud rfl (l_alloc zo_56) ?_
  rintro _ _ ⟨b4, rfl, rfl⟩
  refine KO.q rfl (q_assign rfl) <| KO.done ?_
  repeat (first | refine K.seq ?_ | refine K.skip ?_ | refine K.block ?_ | refine K.inBlock ?_ | refine K.label ?_)
  repeat (first | refine K.seq ?_ | refine K.skip ?_ | refine K.block ?_ | refine K.inBlock ?_ | refine K.label ?_)
  refine K.region <| KO.q rfl (q_field fo_56_3 rfl) <| KO.loudN rfl (l_store1 ck_4 rfl rfl rfl tP tA) ?_
  rintro _ _ ⟨rfl, rfl⟩
  refine KO.done ?_
  repeat (first | refine K.seq ?_ | refine K.skip ?_ | refine K.block ?_ | refine K.inBlock ?_ | refine K.label ?_)
  repeat (first | refine K.seq ?_ | refine K.skip ?_ | refine K.block ?_ | refine K.inBlock ?_ | refine K.label ?_)
  refine K.region <| KO.q rfl (q_field fo_56_2 rfl) <| KO.q rfl (q_load1D ck_3 rfl) <| KO.q rfl (q_min rfl rfl) ?_
  have hm : (if (999 : Int) < retry then (999 : Int) else retry) = (if 999 < retry then 999 else retry) := rfl
  generalize hr : (if (999 : Int) < retry then (999 : Int) else retry) = r
  have hr1 : -9223372036854775808 ≤ r ∧ r ≤ 999 := by rw [← hr]; split <;> omega
  refine KO.q rfl (q_add rfl rfl tN tN) <| KO.q rfl (q_field fo_56_2 rfl) <| KO.loudN rfl (l_store1 ck_3 rfl rfl rfl tP tA) ?_
  rintro _ _ ⟨rfl, rfl⟩
  refine KO.done ?_
  repeat (first | refine K.seq ?_ | refine K.skip ?_ | refine K.block ?_ | refine K.inBlock ?_ | refine K.label ?_)
  repeat (first | refine K.seq ?_ | refine K.skip ?_ | refine K.block ?_ | refine K.inBlock ?_ | refine K.label ?_)
  refine K.draw [pv b2 56 [.int .i64 id, .int .i64 pri, .int .i64 (r + 1), .bool false, .string corr, .string body]] mixed <| dq 0 rfl (q_loadN ck_56 rfl rfl tC) <| dq 1 rfl (q_field fo_56_2 rfl) <| dq 2 rfl (q_load1D ck_3 rfl) <| dq 3 rfl (q_move rfl) <| dq 4 rfl (q_ge rfl rfl) <| dq1N 5 rfl (l_storeN ck_56 rfl rfl rfl (by simp [Value.oneCell']) tP tSN) (.inr (by rintro _ _ ⟨rfl, rfl⟩ w h; exact h.subD)) ?_
  rintro _ _ ⟨rfl, rfl⟩
  refine dq1 6 rfl (OpQ.loud (q_assign rfl)) (.inl tK) ?_
  rintro _ _ ⟨rfl, rfl⟩
  refine D.done tK ?_
  repeat (first | refine K.seq ?_ | refine K.skip ?_ | refine K.block ?_ | refine K.inBlock ?_ | refine K.label ?_)
  refine K.ret (fn := Tryz.f217) Tryz.func217 (fun a w hk hs => resCT Tryz.results217 hk rfl ck_56 rfl (cells_pv tM w hs) rfl) (fun w hs => ?_)
  exact ⟨_, [], rfl, ⟨by rw [Msg.tried]; simp only [Msg.cells]; rw [hr], rfl⟩, hs.fitD⟩
end Go.Proofs.YtkbhldicnamcdaaGreat.L
namespace Go.Proofs.YtkbhldicnamcdaaGreat.L
open Go Go.Proofs
attribute [local irreducible] pv fv pt fz RowF RowO rowP old pure_
set_option maxRecDepth 100000
set_option linter.unusedSimpArgs false
set_option linter.unusedVariables false
def Msg.bytes (m : Msg) : List UInt8 := wInt m.id ++ wInt m.pri ++ wInt m.retry ++ wFlag m.claimed ++ wText m.corr ++ wText m.body
def Msg.zero : Msg := ⟨0, 0, 0, false, ⟨#[]⟩, ⟨#[]⟩⟩
def Rd.msgT (s : Rd) : Msg × Rd :=
  let a := s.int; let b := a.2.int; let c := b.2.int; let d := c.2.flag; let e := d.2.text; let f := e.2.text
  (⟨a.1, b.1, c.1, d.1, e.1, f.1⟩, f.2)
def Rd.msg (s : Rd) : Msg × Rd := if s.msgT.2.f then (Msg.zero, s.msgT.2) else s.msgT
def Rd.rmsgT (s : Rd) : Msg × Rd :=
  let a := s.rint; let b := a.2.rint; let c := b.2.rint; let d := c.2.rflag; let e := d.2.rtext; let f := e.2.rtext
  (⟨a.1, b.1, c.1, d.1, e.1, f.1⟩, f.2)
def Rd.rmsg (s : Rd) : Msg × Rd := if s.rmsgT.2.f then (Msg.zero, s.rmsgT.2) else s.rmsgT
theorem msg_Read (p : Nat) (q : Option Addr) (cap : Nat) (s : Rd) (hc : s.bs.length ≤ cap) : Fn Tryz.prog 169 [.pointer (some ⟨p, 0, none⟩)].toArray (RdL p q cap s)
    (fun r post => ∃ q' cap', r = .agg s.msg.1.cells.toArray ∧ post = RdL p q' cap' s.msg.2 ∧ s.msg.2.bs.length ≤ cap') := by
  refine Fn.enter (N := 27) Tryz.func169 rfl Tryz.ntmps169 tK rfl (fun ρ L => ?_)
  repeat (first | refine K.seq ?_ | refine K.skip ?_ | refine K.block ?_ | refine K.inBlock ?_ | refine K.label ?_)
  refine K.region <| KO.loud rfl (l_alloc zo_56) ?_
  rintro _ _ ⟨b2, rfl, rfl⟩
  refine KO.done ?_
  repeat (first | refine K.seq ?_ | refine K.skip ?_ | refine K.block ?_ | refine K.inBlock ?_ | refine K.label ?_)
  repeat (first | refine K.seq ?_ | refine K.skip ?_ | refine K.block ?_ | refine K.inBlock ?_ | refine K.label ?_)
  refine K.region <| KO.q rfl (q_move rfl) <| KO.q rfl (q_pnil Tryz.underlying170 rfl rfl) <| KO.done ?_
  repeat (first | refine K.seq ?_ | refine K.skip ?_ | refine K.block ?_ | refine K.inBlock ?_ | refine K.label ?_)
  refine K.no rfl ?_
  repeat (first | refine K.seq ?_ | refine K.skip ?_ | refine K.block ?_ | refine K.inBlock ?_ | refine K.label ?_)
  repeat (first | refine K.seq ?_ | refine K.skip ?_ | refine K.block ?_ | refine K.inBlock ?_ | refine K.label ?_)
  refine K.region <| KO.q rfl (q_move rfl) <| KO.loud rfl (OpL.callE rfl (rd_Int p q cap s hc)) ?_
  rintro _ _ ⟨_, ⟨q1, c1, rfl, rfl, h1⟩, rfl⟩
  refine KO.q rfl (q_move rfl) <| KO.loud rfl (OpL.callE rfl (rd_Int p q1 c1 _ h1)) ?_
  rintro _ _ ⟨_, ⟨q2, c2, rfl, rfl, h2⟩, rfl⟩
  refine KO.q rfl (q_move rfl) <| KO.loud rfl (OpL.callE rfl (rd_Int p q2 c2 _ h2)) ?_
  rintro _ _ ⟨_, ⟨q3, c3, rfl, rfl, h3⟩, rfl⟩
  refine KO.q rfl (q_build st_56 rfl tF) <| KO.loud rfl (l_alloc zo_56) ?_
  rintro _ _ ⟨b3, rfl, rfl⟩
  refine KO.loudN rfl (l_storeN ck_56 rfl rfl rfl (by simp [Value.oneCell']) tP tSN) ?_
  rintro _ _ ⟨rfl, rfl⟩
  refine KO.done ?_
  repeat (first | refine K.seq ?_ | refine K.skip ?_ | refine K.block ?_ | refine K.inBlock ?_ | refine K.label ?_)
  repeat (first | refine K.seq ?_ | refine K.skip ?_ | refine K.block ?_ | refine K.inBlock ?_ | refine K.label ?_)
  refine K.region <| KO.q rfl (q_move rfl) <| KO.loud rfl (OpL.callE rfl (rd_Flag p q3 c3 _ h3)) ?_
  rintro _ _ ⟨_, ⟨q4, c4, rfl, rfl, h4⟩, rfl⟩
  refine KO.q rfl (q_field fo_56_3 rfl) <| KO.loudN rfl (l_store1 ck_4 rfl rfl rfl tP tA) ?_
  rintro _ _ ⟨rfl, rfl⟩
  refine KO.done ?_
  repeat (first | refine K.seq ?_ | refine K.skip ?_ | refine K.block ?_ | refine K.inBlock ?_ | refine K.label ?_)
  repeat (first | refine K.seq ?_ | refine K.skip ?_ | refine K.block ?_ | refine K.inBlock ?_ | refine K.label ?_)
  refine K.region <| KO.q rfl (q_move rfl) <| KO.loud rfl (OpL.callE rfl (rd_Text p q4 c4 _ h4)) ?_
  rintro _ _ ⟨_, ⟨q5, c5, rfl, rfl, h5⟩, rfl⟩
  refine KO.q rfl (q_field fo_56_4 rfl) <| KO.loudN rfl (l_store1 ck_9 rfl rfl rfl tP tA) ?_
  rintro _ _ ⟨rfl, rfl⟩
  refine KO.done ?_
  repeat (first | refine K.seq ?_ | refine K.skip ?_ | refine K.block ?_ | refine K.inBlock ?_ | refine K.label ?_)
  repeat (first | refine K.seq ?_ | refine K.skip ?_ | refine K.block ?_ | refine K.inBlock ?_ | refine K.label ?_)
  refine K.region <| KO.q rfl (q_move rfl) <| KO.loud rfl (OpL.callE rfl (rd_Text p q5 c5 _ h5)) ?_
  rintro _ _ ⟨_, ⟨q6, c6, rfl, rfl, h6⟩, rfl⟩
  refine KO.q rfl (q_field fo_56_5 rfl) <| KO.loudN rfl (l_store1 ck_9 rfl rfl rfl tP tA) ?_
  rintro _ _ ⟨rfl, rfl⟩
  refine KO.done ?_
  repeat (first | refine K.seq ?_ | refine K.skip ?_ | refine K.block ?_ | refine K.inBlock ?_ | refine K.label ?_)
  repeat (first | refine K.seq ?_ | refine K.skip ?_ | refine K.block ?_ | refine K.inBlock ?_ | refine K.label ?_)
  refine K.region <| KO.q rfl (q_move rfl) <| KO.loud rfl (OpL.callE rfl (rd_Failed p q6 c6 _)) ?_
  rintro _ _ ⟨_, ⟨rfl, rfl⟩, rfl⟩
  refine KO.done ?_
  repeat (first | refine K.seq ?_ | refine K.skip ?_ | refine K.block ?_ | refine K.inBlock ?_ | refine K.label ?_)
  refine K.ite rfl (fun h => ?_) (fun h => ?_)
  · have e : s.msg = (Msg.zero, s.msgT.2) := if_pos h
    repeat (first | refine K.seq ?_ | refine K.skip ?_ | refine K.block ?_ | refine K.inBlock ?_ | refine K.label ?_)
    refine K.region <| KO.q rfl (q_build st_56 rfl tF) <| KO.loudN rfl (l_storeN ck_56 rfl rfl rfl (by simp [Value.oneCell']) tP tSN) ?_
    rintro _ _ ⟨rfl, rfl⟩
    refine KO.done ?_
    repeat (first | refine K.seq ?_ | refine K.skip ?_ | refine K.block ?_ | refine K.inBlock ?_ | refine K.label ?_)
    refine K.ret (fn := Tryz.f169) Tryz.func169 (fun a w hk hs => resC Tryz.results169 hk rfl ck_56 rfl (cells_pv tM w hs)) (fun w hs => ?_)
    exact ⟨_, RdL p q6 c6 s.msgT.2, rfl, ⟨q6, c6, by rw [e]; rfl, by rw [e], by rw [e]; exact h6⟩, hs.fitD⟩
  · have e : s.msg = s.msgT := if_neg (by rw [show s.msgT.2.f = false from h]; simp)
    repeat (first | refine K.seq ?_ | refine K.skip ?_ | refine K.block ?_ | refine K.inBlock ?_ | refine K.label ?_)
    repeat (first | refine K.seq ?_ | refine K.skip ?_ | refine K.block ?_ | refine K.inBlock ?_ | refine K.label ?_)
    refine K.region <| KO.q rfl (q_loadN ck_56 rfl rfl tC) <| KO.loudN rfl (l_storeN ck_56 rfl rfl rfl (by simp [Value.oneCell']) tP tSN) ?_
    rintro _ _ ⟨rfl, rfl⟩
    refine KO.done ?_
    repeat (first | refine K.seq ?_ | refine K.skip ?_ | refine K.block ?_ | refine K.inBlock ?_ | refine K.label ?_)
    refine K.ret (fn := Tryz.f169) Tryz.func169 (fun a w hk hs => resC Tryz.results169 hk rfl ck_56 rfl (cells_pv tM w hs)) (fun w hs => ?_)
    exact ⟨_, RdL p q6 c6 s.msgT.2, rfl, ⟨q6, c6, by rw [e]; rfl, by rw [e], by rw [e]; exact h6⟩, hs.fitD⟩
end Go.Proofs.YtkbhldicnamcdaaGreat.L
namespace Go.Proofs.YtkbhldicnamcdaaGreat.L
open Go Go.Proofs
attribute [local irreducible] pv fv pt fz RowF RowO rowP old pure_
set_option maxRecDepth 100000
set_option linter.unusedSimpArgs false
set_option linter.unusedVariables false
def Msg.beq (a b : Msg) : Bool := (a.id == b.id) && ((a.pri == b.pri) && ((a.retry == b.retry) && ((a.claimed == b.claimed) && ((a.corr == b.corr) && ((a.body == b.body) && true)))))
theorem msg_hp : Tryz.prog.stoodInHeld 56 = false := by kernel_rfl
theorem msg_hg : Tryz.prog.eqGuardType Tryz.prog.depth 56 = false := by kernel_rfl
theorem msg_eqF (a b : Msg) {fs : Array Field} (h : Tryz.prog.underlying 56 = some (.struct fs)) : EqF Tryz.prog a.cells b.cells fs.toList (a.beq b) := by
  rw [Tryz.underlying56] at h
  cases h
  exact .cons rfl ck_3 rfl rfl (.int Tryz.underlying3) (.cons rfl ck_3 rfl rfl (.int Tryz.underlying3) (.cons rfl ck_3 rfl rfl (.int Tryz.underlying3) (.cons rfl ck_4 rfl rfl (.bool Tryz.underlying4) (.cons rfl ck_9 rfl rfl (.str Tryz.underlying9) (.cons rfl ck_9 rfl rfl (.str Tryz.underlying9) .nil)))))
theorem Alike.msgT {s t : Rd} (h : Alike s t) : Alike s.msgT.2 t.rmsgT.2 ∧ s.msgT.1 = t.rmsgT.1 := by
  have h1 := h.int
  have h2 := h1.1.int
  have h3 := h2.1.int
  have h4 := h3.1.flag
  have h5 := h4.1.text
  have h6 := h5.1.text
  unfold Rd.msgT Rd.rmsgT
  refine ⟨h6.1, ?_⟩
  show Msg.mk _ _ _ _ _ _ = Msg.mk _ _ _ _ _ _
  rw [h1.2, h2.2, h3.2, h4.2, h5.2, h6.2]
theorem Alike.msg {s t : Rd} (h : Alike s t) : Alike s.msg.2 t.rmsg.2 ∧ s.msg.1 = t.rmsg.1 := by
  have h1 := h.msgT
  unfold Rd.msg Rd.rmsg
  rw [← h1.1.1]
  by_cases hf : s.msgT.2.f = true
  · rw [if_pos hf, if_pos hf]; exact ⟨h1.1, rfl⟩
  · rw [if_neg hf, if_neg hf]; exact h1
end Go.Proofs.YtkbhldicnamcdaaGreat.L
namespace Go.Proofs.YtkbhldicnamcdaaGreat.L
open Go Go.RowKit Go.ChangeShapes
def Msg.fits (x : Msg) : Prop := (-9223372036854775808 ≤ x.id ∧ x.id ≤ 9223372036854775807) ∧ (-9223372036854775808 ≤ x.pri ∧ x.pri ≤ 9223372036854775807) ∧ (-9223372036854775808 ≤ x.retry ∧ x.retry ≤ 9223372036854775807) ∧ True ∧ (x.corr.size : Int) ≤ 9223372036854775807 ∧ (x.body.size : Int) ≤ 9223372036854775807
end Go.Proofs.YtkbhldicnamcdaaGreat.L
namespace Go.Proofs.YtkbhldicnamcdaaGreat.L
open Go Go.Proofs
attribute [local irreducible] pv fv pt fz RowF RowO rowP old pure_ elA
set_option maxRecDepth 100000
set_option linter.unusedSimpArgs false
set_option linter.unusedVariables false
open Go.RowKit Go.ChangeShapes
theorem msg_sz (x : Msg) : x.cells.length = 6 := rfl
theorem msg_ext {a b : Msg} : a = b ↔ a.id = b.id ∧ a.pri = b.pri ∧ a.retry = b.retry ∧ a.claimed = b.claimed ∧ a.corr = b.corr ∧ a.body = b.body := by cases a; cases b; simp
instance : DecidableEq Msg := fun _ _ => decidable_of_iff _ msg_ext.symm
theorem msg_beqD (a b : Msg) : a.beq b = decide (a = b) := by rw [Bool.eq_iff_iff, decide_eq_true_iff, msg_ext]; simp [Msg.beq, bbeq]
theorem msg_eqD (a b : Msg) {fs : Array Field} (h : Tryz.prog.underlying 56 = some (.struct fs)) : EqG Tryz.prog a.cells b.cells fs.toList (decide (a = b)) := by
  rw [Tryz.underlying56] at h
  cases h
  have e : ((a.id == b.id) && ((a.pri == b.pri) && ((a.retry == b.retry) && ((a.claimed == b.claimed) && ((a.corr == b.corr) && ((a.body == b.body) && true)))))) = decide (a = b) := by rw [Bool.eq_iff_iff, decide_eq_true_iff, msg_ext]; simp [bbeq]
  rw [← e]
  exact (.cons rfl ck_3 rfl rfl (.int Tryz.underlying3) (.cons rfl ck_3 rfl rfl (.int Tryz.underlying3) (.cons rfl ck_3 rfl rfl (.int Tryz.underlying3) (.cons rfl ck_4 rfl rfl (.bool Tryz.underlying4) (.cons rfl ck_9 rfl rfl (.str Tryz.underlying9) (.cons rfl ck_9 rfl rfl (.str Tryz.underlying9) .nil))))))
structure Rw where
  key : ByteArray
  value : ByteArray
def Rw.cells (x : Rw) : List Value := [.string x.key, .string x.value]
theorem rw_sz (x : Rw) : x.cells.length = 2 := rfl
theorem rw_one (x : Rw) : ∀ v ∈ x.cells, v.oneCell' = true := fun v h => by simp [Rw.cells] at h; rcases h with rfl | rfl <;> rfl
def Kd.rw : Kd Rw := Kd.flat 2 Rw.cells rw_sz rw_one
theorem q_as_rw {X : Fx} {o : Oper} {E : Env} {L : List HP} {cs : List Value} {key_ : ByteArray} {value_ : ByteArray} (h : OpQ X o E L (.agg cs.toArray)) (e : cs = [.string key_, .string value_]) : OpQ X o E L (.agg (Rw.cells ⟨key_, value_⟩).toArray) := q_as h e
theorem rw_ext {a b : Rw} : a = b ↔ a.key = b.key ∧ a.value = b.value := by cases a; cases b; simp
instance : DecidableEq Rw := fun _ _ => decidable_of_iff _ rw_ext.symm
theorem rw_hp : Tryz.prog.stoodInHeld 136 = false := by kernel_rfl
theorem rw_hg : Tryz.prog.eqGuardType Tryz.prog.depth 136 = false := by kernel_rfl
theorem rw_eqD (a b : Rw) {fs : Array Field} (h : Tryz.prog.underlying 136 = some (.struct fs)) : EqG Tryz.prog a.cells b.cells fs.toList (decide (a = b)) := by
  rw [Tryz.underlying136] at h
  cases h
  have e : ((a.key == b.key) && ((a.value == b.value) && true)) = decide (a = b) := by rw [Bool.eq_iff_iff, decide_eq_true_iff, rw_ext]; simp [bbeq]
  rw [← e]
  exact (.cons rfl ck_9 rfl rfl (.str Tryz.underlying9) (.cons rfl ck_9 rfl rfl (.str Tryz.underlying9) .nil))
def Rw.beq (a b : Rw) : Bool := (a.key == b.key) && ((a.value == b.value) && true)
def Rw.fits (x : Rw) : Prop := (x.key.size : Int) ≤ 9223372036854775807 ∧ (x.value.size : Int) ≤ 9223372036854775807
end Go.Proofs.YtkbhldicnamcdaaGreat.L
namespace Go.Proofs.YtkbhldicnamcdaaGreat.L
open Go Go.Proofs
attribute [local irreducible] pv fv pt fz RowF RowO rowP old pure_ elA
set_option maxRecDepth 100000
set_option linter.unusedSimpArgs false
set_option linter.unusedVariables false
theorem wr_TextA (p : Nat) (q : Option Addr) (cap : Nat) (xs : List UInt8) (s : ByteArray) (hb : xs.length ≤ 549755813888) : Fn Tryz.prog 100 [.pointer (some ⟨p, 0, none⟩), .string s].toArray (WrL p q cap xs)
    (fun r post => ∃ q' cap', r = .tuple #[] ∧ post = WrL p q' cap' (xs ++ wText s)) := by
  have hmin : (if (65535 : Int) < (s.size : Int) then (65535 : Int) else (s.size : Int)) = ((min s.size 65535 : Nat) : Int) := by split <;> omega
  refine Fn.enter (N := 23) Tryz.func100 rfl Tryz.ntmps100 tK rfl (fun ρ L => ?_)
  repeat (first | refine K.seq ?_ | refine K.skip ?_ | refine K.block ?_ | refine K.inBlock ?_ | refine K.label ?_)
  refine K.region <| KO.q rfl (q_move rfl) <| KO.q rfl (q_move rfl) <| KO.q rfl (q_lenS Tryz.underlying9 rfl) <| KO.q rfl (q_min rfl rfl) ?_
  rw [hmin]
  refine KO.q rfl (q_scutH Tryz.underlying9 rfl rfl tN tN) <| KO.q rfl (q_assign rfl) <| KO.done ?_
  repeat (first | refine K.seq ?_ | refine K.skip ?_ | refine K.block ?_ | refine K.inBlock ?_ | refine K.label ?_)
  have hsz : (s.extract 0 ((min s.size 65535 : Nat) : Int).toNat).size = min s.size 65535 := by simp <;> omega
  repeat (first | refine K.seq ?_ | refine K.skip ?_ | refine K.block ?_ | refine K.inBlock ?_ | refine K.label ?_)
  refine K.region <| KO.q rfl (q_move rfl) <| KO.q rfl (q_move rfl) <| KO.q rfl (q_lenS Tryz.underlying9 rfl) <| KO.q rfl (q_conv Tryz.underlying89 (by rw [Tryz.underlying3]; rfl) rfl (wrap_u64 tO (by rw [hsz]; omega))) <| KO.loud rfl (OpL.callE rfl (wr_number p q cap xs _ 2 tO tD tD tO)) ?_
  rintro _ _ ⟨_, ⟨q', cap', rfl, rfl⟩, rfl⟩
  refine KO.done ?_
  repeat (first | refine K.seq ?_ | refine K.skip ?_ | refine K.block ?_ | refine K.inBlock ?_ | refine K.label ?_)
  have hl2 := leb_length ((s.extract 0 ((min s.size 65535 : Nat) : Int).toNat).size : Int) 2
  repeat (first | refine K.seq ?_ | refine K.skip ?_ | refine K.block ?_ | refine K.inBlock ?_ | refine K.label ?_)
  refine K.region <| KO.q rfl (q_move rfl) <| KO.q rfl (q_move rfl) <| KO.q rfl (q_nilCheck rfl) <| KO.q rfl (q_field fo_150_0 rfl) <| KO.q rfl (q_load1D ck_23 rfl) <| KO.q rfl (q_move rfl) <| KO.loud rfl (l_appendS se_23 Tryz.underlying9 ⟨_, ze_5, rfl⟩ tD rfl rfl (Pick.there Pick.here) rfl (by rw [hsz]; simp [leb_length]; omega)) ?_
  rintro _ _ ⟨q'', cap'', rfl, rfl⟩
  refine KO.q rfl (q_nilCheck rfl) <| KO.q rfl (q_field fo_150_0 rfl) <| KO.loudN rfl (l_store1 ck_23 rfl rfl rfl tP tA) ?_
  rintro _ _ ⟨rfl, rfl⟩
  refine KO.done ?_
  repeat (first | refine K.seq ?_ | refine K.skip ?_ | refine K.block ?_ | refine K.inBlock ?_ | refine K.label ?_)
  refine K.fin (fn := Tryz.f100) Tryz.func100 (fun a w hk hs => res0 Tryz.results100) (fun w hs => ?_)
  have e : xs ++ leb ((s.extract 0 ((min s.size 65535 : Nat) : Int).toNat).size : Int) (2 : Int).toNat ++ bytesOf (s.extract 0 ((min s.size 65535 : Nat) : Int).toNat) = xs ++ wText s := by
    unfold wText
    rw [hsz, List.append_assoc]
    show xs ++ (leb _ 2 ++ _) = _
    congr 2
    have h1 : bytesOf (s.extract 0 ((min s.size 65535 : Nat) : Int).toNat) = (bytesOf s).take (min s.size 65535) := by
      simp [bytesOf]
    rw [h1]
    by_cases h : s.size ≤ 65535
    · rw [Nat.min_eq_left h, List.take_of_length_le (by simp [bytesOf]), List.take_of_length_le (by simp [bytesOf]; exact h)]
    · rw [Nat.min_eq_right tO]
  rw [e] at hs
  exact ⟨_, WrL p q'' cap'' (xs ++ wText s), rfl, ⟨q'', cap'', rfl, rfl⟩, hs.fitD⟩
theorem Msg.bytes_length (m : Msg) : m.bytes.length ≤ 131100 := by
  unfold Msg.bytes
  simp only [List.length_append, wInt_length, wFlag_length, wText_length]
  omega
theorem msg_WriteA (p : Nat) (q : Option Addr) (cap : Nat) (xs : List UInt8) (m : Msg) (hb : xs.length ≤ 137438953472) : Fn Tryz.prog 102 [.pointer (some ⟨p, 0, none⟩), .agg m.cells.toArray].toArray (WrL p q cap xs)
    (fun r post => ∃ q' cap', r = .tuple #[] ∧ post = WrL p q' cap' (xs ++ m.bytes)) := by
  refine Fn.enter (N := 28) Tryz.func102 rfl Tryz.ntmps102 tK rfl (fun ρ L => ?_)
  refine K.seq <| K.region <| KO.loud rfl (l_box rfl rfl) ?_
  rintro _ _ ⟨b3, rfl, rfl⟩
  refine KO.done <| K.seq <| K.region <| KO.q rfl (q_move rfl) <| KO.q rfl (q_field fo_56_0 rfl) <| KO.q rfl (q_load1D ck_3 rfl) ?_
  refine KO.loud rfl (OpL.callD rfl (h := wr_Int _ _ _ _ _ (by first | omega | (simp [wInt_length, wFlag_length, wText_length]; omega)))) ?_
  rintro _ _ ⟨_, ⟨q1, c1, rfl, rfl⟩, rfl⟩
  refine KO.done <| K.seq <| K.region <| KO.q rfl (q_move rfl) <| KO.q rfl (q_field fo_56_1 rfl) <| KO.q rfl (q_load1D ck_3 rfl) ?_
  refine KO.loud rfl (OpL.callD rfl (h := wr_Int _ _ _ _ _ (by first | omega | (simp [wInt_length, wFlag_length, wText_length]; omega)))) ?_
  rintro _ _ ⟨_, ⟨q2, c2, rfl, rfl⟩, rfl⟩
  refine KO.done <| K.seq <| K.region <| KO.q rfl (q_move rfl) <| KO.q rfl (q_field fo_56_2 rfl) <| KO.q rfl (q_load1D ck_3 rfl) ?_
  refine KO.loud rfl (OpL.callD rfl (h := wr_Int _ _ _ _ _ (by first | omega | (simp [wInt_length, wFlag_length, wText_length]; omega)))) ?_
  rintro _ _ ⟨_, ⟨q3, c3, rfl, rfl⟩, rfl⟩
  refine KO.done <| K.seq <| K.region <| KO.q rfl (q_move rfl) <| KO.q rfl (q_field fo_56_3 rfl) <| KO.q rfl (q_load1D ck_4 rfl) ?_
  refine KO.loud rfl (OpL.callD rfl (h := wr_Flag _ _ _ _ _ (by first | omega | (simp [wInt_length, wFlag_length, wText_length]; omega)))) ?_
  rintro _ _ ⟨_, ⟨q4, c4, rfl, rfl⟩, rfl⟩
  refine KO.done <| K.seq <| K.region <| KO.q rfl (q_move rfl) <| KO.q rfl (q_field fo_56_4 rfl) <| KO.q rfl (q_load1D ck_9 rfl) ?_
  refine KO.loud rfl (OpL.callD rfl (h := wr_TextA _ _ _ _ _ (by first | omega | (simp [wInt_length, wFlag_length, wText_length]; omega)))) ?_
  rintro _ _ ⟨_, ⟨q5, c5, rfl, rfl⟩, rfl⟩
  refine KO.done <| K.region <| KO.q rfl (q_move rfl) <| KO.q rfl (q_field fo_56_5 rfl) <| KO.q rfl (q_load1D ck_9 rfl) ?_
  refine KO.loud rfl (OpL.callD rfl (h := wr_TextA _ _ _ _ _ (by first | omega | (simp [wInt_length, wFlag_length, wText_length]; omega)))) ?_
  rintro _ _ ⟨_, ⟨q6, c6, rfl, rfl⟩, rfl⟩
  refine KO.done ?_
  refine K.fin (fn := Tryz.f102) Tryz.func102 (fun a w hk hs => res0 Tryz.results102) (fun w hs => ?_)
  refine ⟨_, WrL p q6 c6 (xs ++ m.bytes), rfl, ⟨q6, c6, rfl, rfl⟩, ?_⟩
  have e : xs ++ wInt m.id ++ wInt m.pri ++ wInt m.retry ++ wFlag m.claimed ++ wText m.corr ++ wText m.body = xs ++ m.bytes := by simp [Msg.bytes]
  rw [e] at hs
  exact hs.fitD
end Go.Proofs.YtkbhldicnamcdaaGreat.L
namespace Go.Proofs.YtkbhldicnamcdaaGreat.L
open Go Go.Proofs
attribute [local irreducible] pv fv pt fz RowF RowO rowP old pure_ elA Rd.int Rd.text Rd.flag Rd.msg Rd.rint Rd.rtext Rd.rflag Rd.rmsg
set_option maxRecDepth 100000
set_option linter.unusedSimpArgs false
set_option linter.unusedVariables false
theorem DM.also_no {f g : DM} {d : Dk} (h : (f d).1 = false) : f.also g d = (false, (f d).2) := by unfold DM.also; rw [if_neg (by rw [h]; decide)]
theorem DM.also_yes {f g : DM} {d : Dk} (h : (f d).1 = true) : f.also g d = g (f d).2 := by unfold DM.also; rw [if_pos h]
theorem bit0_cases (n : Int) : bit0 n = 0 ∨ bit0 n = 1 := by unfold bit0; omega
theorem bit0_and (a : Int) : IntKind.i64.wrap ((BitVec.ofInt IntKind.i64.bits a &&& BitVec.ofInt IntKind.i64.bits 1).toNat) = bit0 a := by
  have h1 : (BitVec.ofInt IntKind.i64.bits a &&& BitVec.ofInt IntKind.i64.bits 1).toNat = (a % 18446744073709551616).toNat % 2 := by
    rw [BitVec.toNat_and, BitVec.toNat_ofInt]
    show (a % 18446744073709551616).toNat &&& 1 = _
    exact Nat.and_one_is_mod _
  rw [h1, wrap_i64 tO tO]
  unfold bit0; omega
section
variable {X : Fx} {E : Env} {L : List HP} {d : Option Tmp} {ty : TypeId} {pos : String} {af : Array Edge} {gd : Option (Nat × Bool)} {t u : TypeId} {x y : Operand}
theorem q_bit {a : Int} (hx : Env.ev E x = some (.int .i64 a)) (hy : Env.ev E y = some (.int .i64 1)) : OpQ X ⟨d, .binOp .and t x y u, ty, pos, af, gd⟩ E L (.int .i64 (bit0 a)) :=
  q_is (q_and hx hy) (congrArg (Value.int .i64) (bit0_and a))
end
def rtE (o : Option (Int × List UInt8)) : Int := (o.map (·.1)).getD 0
def rtB (o : Option (Int × List UInt8)) : List UInt8 := (o.map (·.2)).getD []
theorem rtOne_none {d : Dk} {w e n : Int} (h : rtSize (d.read w) = (e, n)) (hc : e < 1 ∨ ¬ bit0 e = w ∨ n < 0 ∨ 6144 < n ∨ ¬ d.read w = rootS e n ∨ d.lies (rtPlace e) (need n) = false) : rtOne d w = none := by
  unfold rtOne
  rw [h]
  dsimp only
  rw [if_pos]
  rcases hc with h | h | h | h | h | h <;> simp [h]
theorem rtOne_some {d : Dk} {w e n : Int} (h : rtSize (d.read w) = (e, n)) (h1 : ¬ e < 1) (h2 : bit0 e = w) (h3 : ¬ n < 0) (h4 : ¬ 6144 < n) (h5 : d.read w = rootS e n) (h6 : d.lies (rtPlace e) (need n) = true) : rtOne d w = some (e, d.spanGet (rtPlace e) n) := by
  unfold rtOne
  rw [h]
  dsimp only
  rw [if_neg]
  simp [h1, h2, h3, h4, h5, h6]
theorem rt_cut : Fn Tryz.prog 95 [.int .i64 96].toArray [] (fun r post => r = .int .i64 96 ∧ post = []) := by
  refine Fn.enter (N := 6) Tryz.func95 rfl Tryz.ntmps95 tK rfl (fun ρ L => ?_)
  refine K.seq <| K.region <| KO.q rfl (q_assign rfl) <| KO.done <| K.seq <| K.region <| KO.q rfl (q_move rfl) <| KO.q rfl (q_min rfl rfl) <| KO.q rfl (q_max rfl rfl) <| KO.q rfl (q_assign rfl) ?_
  refine KO.done ?_
  refine kr1 Tryz.func95 Tryz.results95 rfl (fun w hs => ?_)
  exact ⟨_, [], rfl, ⟨rfl, rfl⟩, hs.fitD⟩
theorem rt_Need : Fn Tryz.prog 53 [.int .i64 96].toArray [] (fun r post => r = .int .i64 194 ∧ post = []) := by
  refine Fn.enter (N := 7) Tryz.func53 rfl Tryz.ntmps53 tK rfl (fun ρ L => ?_)
  refine K.seq <| K.region <| KO.q rfl (q_assign rfl) <| KO.done <| K.seq <| K.region <| KO.q rfl (q_move rfl) <| KO.loud rfl (OpL.callD rfl (h := rt_cut)) ?_
  rintro _ _ ⟨_, ⟨rfl, rfl⟩, rfl⟩
  refine KO.q rfl (q_mul rfl rfl tN tN) <| KO.q rfl (q_add rfl rfl tN tN) <| KO.q rfl (q_assign rfl) <| KO.done ?_
  refine kr1 Tryz.func53 Tryz.results53 rfl (fun w hs => ?_)
  exact ⟨_, [], rfl, ⟨rfl, rfl⟩, hs.fitD⟩
theorem rt_place (e : Int) : Fn Tryz.prog 141 [.int .i64 0, .int .i64 96, .int .i64 e].toArray [] (fun r post => r = .int .i64 (rtPlace e) ∧ post = []) := by
  have hb := bit0_cases e
  refine Fn.enter (N := 14) Tryz.func141 rfl Tryz.ntmps141 tK rfl (fun ρ L => ?_)
  refine K.seq <| K.region <| KO.q rfl (q_assign rfl) <| KO.done <| K.seq <| K.region <| KO.q rfl (q_move rfl) <| KO.q rfl (q_add rfl rfl tN tN) <| KO.q rfl (q_move rfl) <| KO.q rfl (q_bit rfl rfl) ?_
  refine KO.q rfl (q_move rfl) <| KO.q rfl (q_mul rfl rfl tN tN) <| KO.q rfl (q_add rfl rfl tN tN) <| KO.q rfl (q_assign rfl) <| KO.done ?_
  refine kr1 Tryz.func141 Tryz.results141 rfl (fun w hs => ?_)
  exact ⟨_, [], rfl, ⟨congrArg (Value.int .i64) (by unfold rtPlace; omega), rfl⟩, hs.fitD⟩
theorem rt_root (e n : Int) : Fn Tryz.prog 144 [.int .i64 e, .int .i64 n].toArray [] (fun r post => ∃ q, r = .slice q (rootS e n).length 64 ∧ post = [RowF Kd.u8 q (rootS e n)]) := by
  have hrl := rootS_len e n
  have hraw := root_raw e n
  have hx : [] ++ wText rootT ++ wInt e ++ wInt n = wText rootT ++ wInt e ++ wInt n := by simp
  refine Fn.enter (N := 19) Tryz.func144 rfl Tryz.ntmps144 tK rfl (fun ρ L => ?_)
  refine K.seq <| K.region <| KO.q rfl (q_assign rfl) <| KO.done <| K.seq <| K.region <| KO.q rfl (q_build st_150 rfl tF) <| KO.loud rfl (l_box rfl rfl) ?_
  rintro _ _ ⟨b7, rfl, rfl⟩
  refine KO.q rfl (q_assign rfl) <| KO.done <| K.st (fun w h => rowO_nil (k := Kd.u8) 5 h) <| K.seq <| K.region <| KO.q rfl (q_move rfl) <| KO.loud rfl (OpL.callD rfl (h := wr_TextA b7 none 0 [] rootT tD)) ?_
  rintro _ _ ⟨_, ⟨q1, c1, rfl, rfl⟩, rfl⟩
  refine KO.done <| K.seq <| K.region <| KO.q rfl (q_move rfl) <| KO.q rfl (q_move rfl) ?_
  refine KO.loud rfl (OpL.callD rfl (h := wr_Int _ _ _ _ _ (by first | omega | (simp [wInt_length, wFlag_length, wText_length]; omega)))) ?_
  rintro _ _ ⟨_, ⟨q1, c1, rfl, rfl⟩, rfl⟩
  refine KO.done <| K.seq <| K.region <| KO.q rfl (q_move rfl) <| KO.q rfl (q_move rfl) ?_
  refine KO.loud rfl (OpL.callD rfl (h := wr_Int _ _ _ _ _ (by first | omega | (simp [wInt_length, wFlag_length, wText_length]; omega)))) ?_
  rintro _ _ ⟨_, ⟨q2, c2, rfl, rfl⟩, rfl⟩
  refine KO.done ?_
  rw [hx]
  refine K.seq <| K.region <| KO.q rfl (q_move rfl) <| KO.loud rfl (OpL.callD rfl (h := wr_Bytes _ _ _ (wText rootT ++ wInt e ++ wInt n) (by rw [hraw]; decide))) ?_
  rintro _ _ ⟨_, ⟨q5, c5, rfl, rfl, hc5⟩, rfl⟩
  refine KO.loud rfl (OpL.callD rfl (h := sp_Fill (RowF Kd.u8 q5 (wText rootT ++ wInt e ++ wInt n)) q5 c5 (wText rootT ++ wInt e ++ wInt n) isF (by rw [hraw]; decide) (by rw [hraw]; decide))) ?_
  rintro _ _ ⟨_, ⟨q6, rfl, rfl⟩, rfl⟩
  refine KO.q rfl (q_assign rfl) <| KO.done <| K.st (fun w h => rowO_freeze (h.pick tP)) ?_
  refine kr1 Tryz.func144 Tryz.results144 rfl (fun w hs => ?_)
  exact ⟨_, [RowF Kd.u8 q6 (rootS e n)], rfl, ⟨q6, by show Value.slice q6 (rootS e n).length (rootS e n).length = _; rw [hrl], rfl⟩, hs.fit (M := [RowF Kd.u8 q6 (fillB (wText rootT ++ wInt e ++ wInt n))]) tG (by repeat (first | exact Drop.refl | apply Drop.skip))⟩
set_option maxHeartbeats 1600000 in
theorem rt_read (p : Nat) (d : Dk) (wi : Int) (hw : d.wf) (hw2 : wi = 0 ∨ wi = 1) : Fn Tryz.prog 122 [.pointer (some ⟨p, 0, none⟩), .int .i64 0, .int .i64 96, .int .i64 wi].toArray [DkX p d]
    (fun r post => ∃ q c, r = .tuple #[.int .i64 (rtE (rtOne d wi)), .slice q (rtB (rtOne d wi)).length c, .bool (rtOne d wi).isSome] ∧ post = [RowF Kd.u8 q (rtB (rtOne d wi)), DkX p d] ∧ (rtB (rtOne d wi)).length ≤ c) := by
  have h4 := hw.len
  have hrd := Dk.read_le hw wi
  refine Fn.enter (N := 73) Tryz.func122 rfl Tryz.ntmps122 tK rfl (fun ρ L => ?_)
  refine K.seq <| K.region <| KO.q rfl (q_assign rfl) <| KO.q rfl (q_assign rfl) <| KO.q rfl (q_assign rfl) <| KO.done <| K.seq <| K.region <| KO.q rfl (q_move rfl) <| KO.q rfl (q_move rfl) ?_
  refine KO.q rfl (q_move rfl) <| KO.q rfl (q_add rfl rfl tN tN) <| KO.loud rfl (OpL.callD rfl (h := dk_Read p d (0 + wi) hw)) ?_
  rintro _ _ ⟨_, ⟨qr, cr, rfl, rfl, hqr⟩, rfl⟩
  rw [Int.zero_add] at hqr ⊢
  refine KO.st (fun w h => rowO_freeze (h.pick tP)) <| KO.q rfl (q_assign rfl) <| KO.done <| K.seq <| K.region <| KO.q rfl (q_move rfl) <| KO.loud rfl (OpL.callD rfl (h := rd_New _ _ _ tN)) ?_
  rintro _ _ ⟨_, ⟨p1, q1, c1, rfl, rfl, hc1⟩, rfl⟩
  refine KO.q rfl (q_assign rfl) <| KO.done <| K.seq <| K.region <| KO.q rfl (q_move rfl) <| KO.loud rfl (OpL.callD rfl (h := rd_Text _ _ _ _ (by assumption))) ?_
  rintro _ _ ⟨_, ⟨q2, c2, rfl, rfl, hc2⟩, rfl⟩
  refine KO.done <| K.seq <| K.region <| KO.q rfl (q_move rfl) <| KO.loud rfl (OpL.callD rfl (h := rd_Int _ _ _ _ (by assumption))) ?_
  rintro _ _ ⟨_, ⟨q3, c3, rfl, rfl, hc3⟩, rfl⟩
  refine KO.q rfl (q_move rfl) <| KO.loud rfl (OpL.callD rfl (h := rd_Int _ _ _ _ (by assumption))) ?_
  rintro _ _ ⟨_, ⟨q4, c4, rfl, rfl, hc4⟩, rfl⟩
  refine KO.q rfl (q_assign rfl) <| KO.q rfl (q_assign rfl) <| KO.done ?_
  generalize hE : (Rd.int (Rd.text ⟨d.read wi, false⟩).2).1 = e
  generalize hN : (Rd.int (Rd.int (Rd.text ⟨d.read wi, false⟩).2).2).1 = n
  have hb1 := Rd.int_bounds (Rd.text ⟨d.read wi, false⟩).2
  have hb2 := Rd.int_bounds (Rd.int (Rd.text ⟨d.read wi, false⟩).2).2
  rw [hE] at hb1
  rw [hN] at hb2
  have hsz : rtSize (d.read wi) = (e, n) := by unfold rtSize; rw [hE, hN]
  refine K.seq <| K.seq <| K.region <| KO.q rfl (q_move rfl) <| KO.q rfl (q_lt rfl rfl) <| KO.q rfl (q_move rfl) ?_
  refine KO.dsplit 30 rfl (fun g30 => ?_) (fun g30 => ?_)
  · have hn := rtOne_none hsz (.inl g30)
    refine KO.skip rfl <| KO.skip rfl <| KO.skip rfl <| KO.skip rfl <| KO.q rfl (q_pickT rfl rfl) <| KO.q rfl (q_move rfl) <| KO.skip rfl <| KO.skip rfl <| KO.q rfl (q_pickT rfl rfl) <| KO.q rfl (q_move rfl) ?_
    refine KO.skip rfl <| KO.skip rfl <| KO.skip rfl <| KO.skip rfl <| KO.q rfl (q_pickT rfl rfl) <| KO.q rfl (q_move rfl) <| KO.skip rfl <| KO.skip rfl <| KO.skip rfl <| KO.skip rfl ?_
    refine KO.skip rfl <| KO.skip rfl <| KO.q rfl (q_pickT rfl rfl) <| KO.q rfl (q_move rfl) <| KO.skip rfl <| KO.skip rfl <| KO.skip rfl <| KO.skip rfl <| KO.skip rfl <| KO.skip rfl ?_
    refine KO.skip rfl <| KO.skip rfl <| KO.skip rfl <| KO.q rfl (q_pickT rfl rfl) <| KO.done <| K.yes rfl <| K.seq <| K.region <| KO.q rfl (q_assign rfl) <| KO.q rfl (q_assign rfl) ?_
    refine KO.q rfl (q_assign rfl) <| KO.done ?_
    refine kr3 Tryz.func122 Tryz.results122 rfl rfl rfl (fun w hs => ?_)
    rw [hn]
    exact ⟨_, [RowF Kd.u8 none [], DkX p d], rfl, ⟨none, 0, rfl, rfl, Nat.le_refl _⟩, (rowF_nil (k := Kd.u8) none hs).fitD⟩
  · refine KO.q rfl (q_move rfl) <| KO.q rfl (q_bit rfl rfl) <| KO.q rfl (q_move rfl) <| KO.q rfl (q_ne rfl rfl) <| KO.q rfl (q_pickF rfl rfl) <| KO.q rfl (q_move rfl) ?_
    refine KO.dsplit 36 rfl (fun g36 => ?_) (fun g36 => ?_)
    · have hn := rtOne_none hsz (.inr (.inl g36))
      refine KO.skip rfl <| KO.skip rfl <| KO.q rfl (q_pickT rfl rfl) <| KO.q rfl (q_move rfl) <| KO.skip rfl <| KO.skip rfl <| KO.skip rfl <| KO.skip rfl <| KO.q rfl (q_pickT rfl rfl) <| KO.q rfl (q_move rfl) ?_
      refine KO.skip rfl <| KO.skip rfl <| KO.skip rfl <| KO.skip rfl <| KO.skip rfl <| KO.skip rfl <| KO.q rfl (q_pickT rfl rfl) <| KO.q rfl (q_move rfl) <| KO.skip rfl <| KO.skip rfl ?_
      refine KO.skip rfl <| KO.skip rfl <| KO.skip rfl <| KO.skip rfl <| KO.skip rfl <| KO.skip rfl <| KO.skip rfl <| KO.q rfl (q_pickT rfl rfl) <| KO.done <| K.yes rfl ?_
      refine K.seq <| K.region <| KO.q rfl (q_assign rfl) <| KO.q rfl (q_assign rfl) <| KO.q rfl (q_assign rfl) <| KO.done ?_
      refine kr3 Tryz.func122 Tryz.results122 rfl rfl rfl (fun w hs => ?_)
      rw [hn]
      exact ⟨_, [RowF Kd.u8 none [], DkX p d], rfl, ⟨none, 0, rfl, rfl, Nat.le_refl _⟩, (rowF_nil (k := Kd.u8) none hs).fitD⟩
    · refine KO.q rfl (q_move rfl) <| KO.q rfl (q_lt rfl rfl) <| KO.q rfl (q_pickF rfl rfl) <| KO.q rfl (q_move rfl) ?_
      refine KO.dsplit 40 rfl (fun g40 => ?_) (fun g40 => ?_)
      · have hn := rtOne_none hsz (.inr (.inr (.inl g40)))
        refine KO.skip rfl <| KO.skip rfl <| KO.skip rfl <| KO.skip rfl <| KO.q rfl (q_pickT rfl rfl) <| KO.q rfl (q_move rfl) <| KO.skip rfl <| KO.skip rfl <| KO.skip rfl <| KO.skip rfl ?_
        refine KO.skip rfl <| KO.skip rfl <| KO.q rfl (q_pickT rfl rfl) <| KO.q rfl (q_move rfl) <| KO.skip rfl <| KO.skip rfl <| KO.skip rfl <| KO.skip rfl <| KO.skip rfl <| KO.skip rfl ?_
        refine KO.skip rfl <| KO.skip rfl <| KO.skip rfl <| KO.q rfl (q_pickT rfl rfl) <| KO.done <| K.yes rfl <| K.seq <| K.region <| KO.q rfl (q_assign rfl) <| KO.q rfl (q_assign rfl) ?_
        refine KO.q rfl (q_assign rfl) <| KO.done ?_
        refine kr3 Tryz.func122 Tryz.results122 rfl rfl rfl (fun w hs => ?_)
        rw [hn]
        exact ⟨_, [RowF Kd.u8 none [], DkX p d], rfl, ⟨none, 0, rfl, rfl, Nat.le_refl _⟩, (rowF_nil (k := Kd.u8) none hs).fitD⟩
      · refine KO.q rfl (q_move rfl) <| KO.q rfl (q_move rfl) <| KO.q rfl (q_mul rfl rfl tN tN) <| KO.q rfl (q_gt rfl rfl) <| KO.q rfl (q_pickF rfl rfl) <| KO.q rfl (q_move rfl) ?_
        refine KO.dsplit 46 rfl (fun g46 => ?_) (fun g46 => ?_)
        · have hn := rtOne_none hsz (.inr (.inr (.inr (.inl tO))))
          refine KO.skip rfl <| KO.skip rfl <| KO.skip rfl <| KO.skip rfl <| KO.skip rfl <| KO.skip rfl <| KO.q rfl (q_pickT rfl rfl) <| KO.q rfl (q_move rfl) <| KO.skip rfl <| KO.skip rfl ?_
          refine KO.skip rfl <| KO.skip rfl <| KO.skip rfl <| KO.skip rfl <| KO.skip rfl <| KO.skip rfl <| KO.skip rfl <| KO.q rfl (q_pickT rfl rfl) <| KO.done <| K.yes rfl ?_
          refine K.seq <| K.region <| KO.q rfl (q_assign rfl) <| KO.q rfl (q_assign rfl) <| KO.q rfl (q_assign rfl) <| KO.done ?_
          refine kr3 Tryz.func122 Tryz.results122 rfl rfl rfl (fun w hs => ?_)
          rw [hn]
          exact ⟨_, [RowF Kd.u8 none [], DkX p d], rfl, ⟨none, 0, rfl, rfl, Nat.le_refl _⟩, (rowF_nil (k := Kd.u8) none hs).fitD⟩
        · refine KO.q rfl (q_move rfl) <| KO.q rfl (q_move rfl) <| KO.q rfl (q_move rfl) <| KO.loud rfl (OpL.callD rfl (h := rt_root _ _)) ?_
          rintro _ _ ⟨_, ⟨qr5, rfl, rfl⟩, rfl⟩
          refine KO.loud rfl (OpL.callD rfl (h := eq_u8 (RowF Kd.u8 qr (d.read wi)) (RowF Kd.u8 _ (rootS e n)) qr _ cr 64 (d.read wi) (rootS e n) isF isF tO)) ?_
          rintro _ _ ⟨_, ⟨rfl, rfl⟩, rfl⟩
          refine KO.q rfl (q_not rfl) <| KO.q rfl (q_pickF rfl rfl) <| KO.q rfl (q_move rfl) ?_
          refine KO.split 54 rfl (fun g54 => ?_) (fun g54 => ?_)
          · have hn := rtOne_none hsz (.inr (.inr (.inr (.inr (.inl (by simpa using g54))))))
            refine KO.skip rfl <| KO.skip rfl <| KO.skip rfl <| KO.skip rfl <| KO.skip rfl <| KO.skip rfl <| KO.skip rfl <| KO.skip rfl <| KO.skip rfl <| KO.q rfl (q_pickT rfl rfl) ?_
            refine KO.done <| K.yes rfl <| K.seq <| K.region <| KO.q rfl (q_assign rfl) <| KO.q rfl (q_assign rfl) <| KO.q rfl (q_assign rfl) <| KO.done ?_
            refine kr3 Tryz.func122 Tryz.results122 rfl rfl rfl (fun w hs => ?_)
            rw [hn]
            exact ⟨_, [RowF Kd.u8 none [], DkX p d], rfl, ⟨none, 0, rfl, rfl, Nat.le_refl _⟩, (rowF_nil (k := Kd.u8) none hs).fitD⟩
          · refine KO.q rfl (q_move rfl) <| KO.q rfl (q_move rfl) <| KO.q rfl (q_move rfl) <| KO.q rfl (q_move rfl) <| KO.loud rfl (OpL.callD rfl (h := rt_place _)) ?_
            rintro _ _ ⟨_, ⟨rfl, rfl⟩, rfl⟩
            refine KO.q rfl (q_move rfl) <| KO.loud rfl (OpL.callD rfl (h := sp_Need _ tO)) ?_
            rintro _ _ ⟨_, ⟨rfl, rfl⟩, rfl⟩
            refine KO.loud rfl (OpL.callD rfl (h := sp_Is _ _ _ _ (by assumption))) ?_
            rintro _ _ ⟨_, ⟨rfl, rfl⟩, rfl⟩
            refine KO.q rfl (q_not rfl) <| KO.q rfl (q_pickF rfl rfl) <| KO.done ?_
            refine K.bcond (s := 64) rfl (fun g64 => ?_) (fun g64 => ?_)
            · have hn := rtOne_none hsz (.inr (.inr (.inr (.inr (.inr (by simpa using g64))))))
              refine K.seq <| K.region <| KO.q rfl (q_assign rfl) <| KO.q rfl (q_assign rfl) <| KO.q rfl (q_assign rfl) <| KO.done ?_
              refine kr3 Tryz.func122 Tryz.results122 rfl rfl rfl (fun w hs => ?_)
              rw [hn]
              exact ⟨_, [RowF Kd.u8 none [], DkX p d], rfl, ⟨none, 0, rfl, rfl, Nat.le_refl _⟩, (rowF_nil (k := Kd.u8) none hs).fitD⟩
            · have hn := rtOne_some hsz g30 tO g40 tO (by simpa using g54) (by simpa using g64)
              refine K.skip <| K.seq <| K.region <| KO.q rfl (q_move rfl) <| KO.q rfl (q_move rfl) <| KO.q rfl (q_move rfl) <| KO.q rfl (q_move rfl) <| KO.q rfl (q_move rfl) <| KO.loud rfl (OpL.callD rfl (h := rt_place _)) ?_
              rintro _ _ ⟨_, ⟨rfl, rfl⟩, rfl⟩
              refine KO.q rfl (q_move rfl) <| KO.loud rfl (OpL.callD rfl (h := sp_Get p d (rtPlace e) n hw)) ?_
              rintro _ _ ⟨_, ⟨qg, cg, rfl, rfl, hcg⟩, rfl⟩
              refine KO.q rfl (q_assign rfl) <| KO.q rfl (q_assign rfl) <| KO.q rfl (q_assign rfl) <| KO.done ?_
              refine kr3 Tryz.func122 Tryz.results122 rfl rfl rfl (fun w hs => ?_)
              rw [hn]
              exact ⟨_, [RowF Kd.u8 qg (d.spanGet (rtPlace e) n), DkX p d], rfl, ⟨qg, cg, rfl, rfl, hcg⟩, hs.fitD⟩
theorem lies0 {d : Dk} (h : d.len ≤ 4096) : d.lies 0 0 = true := by unfold Dk.lies; simp
theorem rt_Read (p : Nat) (d : Dk) (hw : d.wf) : Fn Tryz.prog 66 [.pointer (some ⟨p, 0, none⟩), .int .i64 0, .int .i64 96].toArray [DkX p d]
    (fun r post => ∃ q c, r = .tuple #[.int .i64 (rtE (rtRead d)), .slice q (rtB (rtRead d)).length c, .bool (rtRead d).isSome] ∧ post = [RowF Kd.u8 q (rtB (rtRead d)), DkX p d] ∧ (rtB (rtRead d)).length ≤ c) := by
  have h4 := hw.len
  have hl0 := lies0 h4
  have hr1 : ∀ {x : Int × List UInt8}, rtOne d 1 = some x → rtE (rtOne d 0) < x.1 → rtRead d = rtOne d 1 := fun {x} h h2 => by
    unfold rtRead; rw [h]; show (if rtE (rtOne d 0) < x.1 then some x else _) = _; rw [if_pos h2]
  have hr0 : ¬ ((rtOne d 1).isSome = true ∧ rtE (rtOne d 0) < rtE (rtOne d 1)) → rtRead d = rtOne d 0 := fun h => by
    unfold rtRead
    rcases h1 : rtOne d 1 with _ | x
    · rfl
    · show (if rtE (rtOne d 0) < x.1 then some x else _) = _
      rw [if_neg (fun h2 => h (by rw [h1]; exact ⟨rfl, h2⟩))]
  refine Fn.enter (N := 48) Tryz.func66 rfl Tryz.ntmps66 tK rfl (fun ρ L => ?_)
  refine K.seq <| K.region <| KO.q rfl (q_assign rfl) <| KO.q rfl (q_assign rfl) <| KO.q rfl (q_assign rfl) <| KO.done <| K.seq <| K.seq <| K.region <| KO.q rfl (q_move rfl) <| KO.q rfl (q_move rfl) ?_
  refine KO.loud rfl (OpL.callD rfl (h := sp_Is _ _ _ _ (by assumption))) ?_
  rintro _ _ ⟨_, ⟨rfl, rfl⟩, rfl⟩
  refine KO.q rfl (q_not rfl) <| KO.done ?_
  refine K.bcond (s := 18) rfl (fun g18 => ?_) (fun g18 => ?_)
  · rw [hl0] at g18; cases g18
  · refine K.skip <| K.seq <| K.region <| KO.q rfl (q_move rfl) <| KO.loud rfl (OpL.callD rfl (h := rt_cut)) ?_
    rintro _ _ ⟨_, ⟨rfl, rfl⟩, rfl⟩
    refine KO.q rfl (q_assign rfl) <| KO.done <| K.seq <| K.region <| KO.q rfl (q_move rfl) <| KO.q rfl (q_move rfl) <| KO.q rfl (q_move rfl) <| KO.loud rfl (OpL.callD rfl (h := rt_read p d 0 hw (.inl rfl))) ?_
    rintro _ _ ⟨_, ⟨q0, c0, rfl, rfl, hc0⟩, rfl⟩
    refine KO.q rfl (q_move rfl) <| KO.q rfl (q_extract rfl rfl) <| KO.q rfl (q_extract rfl rfl) <| KO.q rfl (q_extract rfl rfl) <| KO.q rfl (q_assign rfl) <| KO.q rfl (q_assign rfl) <| KO.q rfl (q_assign rfl) <| KO.done <| K.seq <| K.region ?_
    refine KO.q rfl (q_move rfl) <| KO.q rfl (q_move rfl) <| KO.q rfl (q_move rfl) <| KO.loud rfl (OpL.callD rfl (h := rt_read p d 1 hw (.inr rfl))) ?_
    rintro _ _ ⟨_, ⟨q1, c1, rfl, rfl, hc1⟩, rfl⟩
    refine KO.q rfl (q_move rfl) <| KO.q rfl (q_extract rfl rfl) <| KO.q rfl (q_extract rfl rfl) <| KO.q rfl (q_extract rfl rfl) <| KO.q rfl (q_assign rfl) <| KO.q rfl (q_assign rfl) <| KO.q rfl (q_assign rfl) <| KO.done <| K.seq <| K.seq <| K.region ?_
    refine KO.q rfl (q_move rfl) <| KO.q rfl (q_move rfl) ?_
    first | refine KO.dsplit 38 rfl (fun g38 => ?_) (fun g38 => ?_) | refine KO.split 38 rfl (fun g38 => ?_) (fun g38 => ?_)
    · refine KO.q rfl (q_move rfl) <| KO.q rfl (q_move rfl) <| KO.q rfl (q_gt rfl rfl) <| KO.q rfl (q_pickT rfl rfl) <| KO.done ?_
      refine K.dcond (s := 42) rfl (fun g42 => ?_) (fun g42 => ?_)
      · have hfin : rtRead d = rtOne d 1 := by
          rcases h1 : rtOne d 1 with _ | x
          · rw [h1] at g38; cases g38
          · rw [h1] at g42; rw [hr1 h1 g42, h1]
        refine K.seq <| K.region <| KO.q rfl (q_move rfl) <| KO.q rfl (q_move rfl) <| KO.q rfl (q_assign rfl) <| KO.q rfl (q_assign rfl) <| KO.q rfl (q_assign rfl) <| KO.done ?_
        refine kr3 Tryz.func66 Tryz.results66 rfl rfl rfl (fun w hs => ?_)
        have hso : (rtOne d 1).isSome = true := g38
        rw [hfin]
        exact ⟨_, [RowF Kd.u8 q1 (rtB (rtOne d 1)), DkX p d], rfl, ⟨q1, c1, by rw [hso], rfl, hc1⟩, hs.fitD⟩
      · have hfin : rtRead d = rtOne d 0 := hr0 (fun h => g42 h.2)
        refine K.skip <| K.seq <| K.region <| KO.q rfl (q_move rfl) <| KO.q rfl (q_move rfl) <| KO.q rfl (q_move rfl) <| KO.q rfl (q_assign rfl) <| KO.q rfl (q_assign rfl) <| KO.q rfl (q_assign rfl) <| KO.done ?_
        refine kr3 Tryz.func66 Tryz.results66 rfl rfl rfl (fun w hs => ?_)
        rw [hfin]
        exact ⟨_, [RowF Kd.u8 q0 (rtB (rtOne d 0)), DkX p d], rfl, ⟨q0, c0, rfl, rfl, hc0⟩, hs.fitD⟩
    · have hfin : rtRead d = rtOne d 0 := hr0 (fun h => by rw [g38] at h; cases h.1)
      refine KO.skip rfl <| KO.skip rfl <| KO.skip rfl <| KO.q rfl (q_pickF rfl rfl) <| KO.done <| K.no rfl <| K.skip <| K.seq <| K.region <| KO.q rfl (q_move rfl) <| KO.q rfl (q_move rfl) ?_
      refine KO.q rfl (q_move rfl) <| KO.q rfl (q_assign rfl) <| KO.q rfl (q_assign rfl) <| KO.q rfl (q_assign rfl) <| KO.done ?_
      refine kr3 Tryz.func66 Tryz.results66 rfl rfl rfl (fun w hs => ?_)
      rw [hfin]
      exact ⟨_, [RowF Kd.u8 q0 (rtB (rtOne d 0)), DkX p d], rfl, ⟨q0, c0, rfl, rfl, hc0⟩, hs.fitD⟩
set_option maxHeartbeats 1600000 in
theorem rt_Write (A : HP) (p : Nat) (d : Dk) (epoch : Int) (q : Option Addr) (c : Nat) (b : List UInt8) (hA : IsRow A Kd.u8 q b) (hw : d.wf) (hc : d.cnt ≤ 80000000) : Fn Tryz.prog 73 [.pointer (some ⟨p, 0, none⟩), .int .i64 0, .int .i64 96, .int .i64 epoch, .slice q b.length c].toArray [A, DkX p d]
    (fun r post => r = .int .i64 (rtWrite epoch b d).1 ∧ post = [A, DkX p (rtWrite epoch b d).2]) := by
  have h4 := hw.len
  have hl0 := lies0 h4
  have hpc := d.spanPut_cnt (rtPlace epoch) b
  have hw1 := hw.spanPut (rtPlace epoch) b
  have hw2 := hw1.sync
  have hsc := Dk.sync_cnt (d.spanPut (rtPlace epoch) b).2
  have hw3 := hw2.write (bit0 epoch) (rootS epoch b.length)
  have hrl := rootS_len epoch b.length
  have hbc := bit0_cases epoch
  refine Fn.enter (N := 61) Tryz.func73 rfl Tryz.ntmps73 tK rfl (fun ρ L => ?_)
  refine K.seq <| K.region <| KO.q rfl (q_assign rfl) <| KO.done <| K.seq <| K.region <| KO.q rfl (q_move rfl) <| KO.loud rfl (OpL.callD rfl (h := rt_cut)) ?_
  rintro _ _ ⟨_, ⟨rfl, rfl⟩, rfl⟩
  refine KO.q rfl (q_assign rfl) <| KO.done <| K.seq <| K.block <| K.seq <| K.region <| KO.q rfl (q_move rfl) <| KO.q rfl (q_lt rfl rfl) <| KO.q rfl (q_assign rfl) <| KO.done ?_
  refine K.dcond (s := 15) rfl (fun g15 => ?_) (fun g15 => ?_)
  · have hr : rtWrite epoch b d = (1, d) := by unfold rtWrite; rw [if_pos g15]
    refine K.seq <| K.region <| KO.q rfl (q_assign rfl) <| KO.done ?_
    refine kr1 Tryz.func73 Tryz.results73 rfl (fun w hs => ?_)
    rw [hr]
    exact ⟨_, [A, DkX p d], rfl, ⟨rfl, rfl⟩, hs.fitD⟩
  · refine K.seq <| K.region <| KO.q rfl (q_move rfl) <| KO.q rfl (q_len Tryz.underlying23 rfl) <| KO.q rfl (q_move rfl) <| KO.q rfl (q_mul rfl rfl tN tN) <| KO.q rfl (q_gt rfl rfl) <| KO.q rfl (q_assign rfl) <| KO.done ?_
    refine K.dcond (s := 18) rfl (fun g18 => ?_) (fun g18 => ?_)
    · have hr : rtWrite epoch b d = (6, d) := by unfold rtWrite; rw [if_neg g15, if_pos tO]
      refine K.seq <| K.region <| KO.q rfl (q_assign rfl) <| KO.done ?_
      refine kr1 Tryz.func73 Tryz.results73 rfl (fun w hs => ?_)
      rw [hr]
      exact ⟨_, [A, DkX p d], rfl, ⟨rfl, rfl⟩, hs.fitD⟩
    · have hb : (b.length : Int) ≤ 6144 := by omega
      have hnl : need b.length ≤ 6144 := Int.le_trans (need_le (Int.natCast_nonneg _)) hb
      have hr : rtWrite epoch b d = if (rtLay epoch b d).1 = true then (0, (rtLay epoch b d).2) else (12, (rtLay epoch b d).2) := by unfold rtWrite; rw [if_neg g15, if_neg tO]
      refine K.skip <| K.inBlock <| K.seq <| K.region <| KO.q rfl (q_move rfl) <| KO.q rfl (q_move rfl) <| KO.q rfl (q_move rfl) <| KO.loud rfl (OpL.callD rfl (h := rt_place _)) ?_
      rintro _ _ ⟨_, ⟨rfl, rfl⟩, rfl⟩
      refine KO.q rfl (q_move rfl) <| KO.q rfl (q_move rfl) <| KO.q rfl (q_bit rfl rfl) <| KO.q rfl (q_add rfl rfl tN tN) <| KO.q rfl (q_assign rfl) <| KO.q rfl (q_assign rfl) <| KO.done ?_
      rw [Int.zero_add]
      refine K.seq <| K.seq <| K.region <| KO.q rfl (q_move rfl) <| KO.q rfl (q_move rfl) <| KO.loud rfl (OpL.callD rfl (h := sp_Is _ _ _ _ (by assumption))) ?_
      rintro _ _ ⟨_, ⟨rfl, rfl⟩, rfl⟩
      refine KO.q rfl (q_not rfl) <| KO.done ?_
      refine K.bcond (s := 35) rfl (fun g35 => ?_) (fun g35 => ?_)
      · rw [hl0] at g35; cases g35
      · refine K.skip <| K.seq <| K.seq <| K.region <| KO.q rfl (q_move rfl) <| KO.q rfl (q_move rfl) <| KO.q rfl (q_move rfl) <| KO.loud rfl (OpL.callD rfl (h := sp_Put A p d (rtPlace epoch) q c b hA hw tO tO)) ?_
        rintro _ _ ⟨_, ⟨rfl, rfl⟩, rfl⟩
        refine KO.q rfl (q_not rfl) <| KO.q rfl (q_move rfl) ?_
        refine KO.split 41 rfl (fun g41 => ?_) (fun g41 => ?_)
        · have g41 : (d.spanPut (rtPlace epoch) b).1 = false := by simpa using g41
          have hl : rtLay epoch b d = (false, (d.spanPut (rtPlace epoch) b).2) := DM.also_no g41
          refine KO.skip rfl <| KO.skip rfl <| KO.skip rfl <| KO.q rfl (q_pickT rfl rfl) <| KO.q rfl (q_move rfl) <| KO.skip rfl <| KO.skip rfl <| KO.skip rfl <| KO.skip rfl <| KO.skip rfl ?_
          refine KO.skip rfl <| KO.skip rfl <| KO.skip rfl <| KO.q rfl (q_pickT rfl rfl) <| KO.q rfl (q_move rfl) <| KO.skip rfl <| KO.skip rfl <| KO.skip rfl <| KO.q rfl (q_pickT rfl rfl) <| KO.done ?_
          refine K.yes rfl <| K.seq <| K.region <| KO.q rfl (q_assign rfl) <| KO.done ?_
          refine kr1 Tryz.func73 Tryz.results73 rfl (fun w hs => ?_)
          rw [hr, hl]
          exact ⟨_, [A, DkX p (d.spanPut (rtPlace epoch) b).2], rfl, ⟨rfl, rfl⟩, hs.fitD⟩
        · have g41 : (d.spanPut (rtPlace epoch) b).1 = true := by simpa using g41
          refine KO.q rfl (q_move rfl) <| KO.loud rfl (OpL.callD rfl (h := dk_Sync p _ hw1)) ?_
          rintro _ _ ⟨_, ⟨rfl, rfl⟩, rfl⟩
          refine KO.q rfl (q_not rfl) <| KO.q rfl (q_pickF rfl rfl) <| KO.q rfl (q_move rfl) ?_
          refine KO.split 46 rfl (fun g46 => ?_) (fun g46 => ?_)
          · have g46 : (d.spanPut (rtPlace epoch) b).2.sync.1 = false := by simpa using g46
            have hl : rtLay epoch b d = (false, (d.spanPut (rtPlace epoch) b).2.sync.2) := (DM.also_yes g41).trans (DM.also_no g46)
            refine KO.skip rfl <| KO.skip rfl <| KO.skip rfl <| KO.skip rfl <| KO.skip rfl <| KO.skip rfl <| KO.skip rfl <| KO.skip rfl <| KO.q rfl (q_pickT rfl rfl) <| KO.q rfl (q_move rfl) ?_
            refine KO.skip rfl <| KO.skip rfl <| KO.skip rfl <| KO.q rfl (q_pickT rfl rfl) <| KO.done <| K.yes rfl <| K.seq <| K.region <| KO.q rfl (q_assign rfl) <| KO.done ?_
            refine kr1 Tryz.func73 Tryz.results73 rfl (fun w hs => ?_)
            rw [hr, hl]
            exact ⟨_, [A, DkX p (d.spanPut (rtPlace epoch) b).2.sync.2], rfl, ⟨rfl, rfl⟩, hs.fitD⟩
          · have g46 : (d.spanPut (rtPlace epoch) b).2.sync.1 = true := by simpa using g46
            refine KO.q rfl (q_move rfl) <| KO.q rfl (q_move rfl) <| KO.q rfl (q_move rfl) <| KO.q rfl (q_move rfl) <| KO.q rfl (q_len Tryz.underlying23 rfl) <| KO.loud rfl (OpL.callD rfl (h := rt_root epoch b.length)) ?_
            rintro _ _ ⟨_, ⟨qr, rfl, rfl⟩, rfl⟩
            refine KO.loud rfl (OpL.callD rfl (h := dk_Write (RowF Kd.u8 qr (rootS epoch b.length)) p _ (bit0 epoch) qr 64 (rootS epoch b.length) isF hw2 tO)) ?_
            rintro _ _ ⟨_, ⟨rfl, rfl⟩, rfl⟩
            refine KO.q rfl (q_not rfl) <| KO.q rfl (q_pickF rfl rfl) <| KO.q rfl (q_move rfl) ?_
            refine KO.split 56 rfl (fun g56 => ?_) (fun g56 => ?_)
            · have g56 : ((d.spanPut (rtPlace epoch) b).2.sync.2.write (bit0 epoch) (rootS epoch b.length)).1 = false := by simpa using g56
              have hl : rtLay epoch b d = (false, ((d.spanPut (rtPlace epoch) b).2.sync.2.write (bit0 epoch) (rootS epoch b.length)).2) := (DM.also_yes g41).trans ((DM.also_yes g46).trans (DM.also_no g56))
              refine KO.skip rfl <| KO.skip rfl <| KO.skip rfl <| KO.q rfl (q_pickT rfl rfl) <| KO.done <| K.yes rfl <| K.seq <| K.region <| KO.q rfl (q_assign rfl) <| KO.done ?_
              refine kr1 Tryz.func73 Tryz.results73 rfl (fun w hs => ?_)
              rw [hr, hl]
              exact ⟨_, [A, DkX p ((d.spanPut (rtPlace epoch) b).2.sync.2.write (bit0 epoch) (rootS epoch b.length)).2], rfl, ⟨rfl, rfl⟩, hs.fitD⟩
            · have g56 : ((d.spanPut (rtPlace epoch) b).2.sync.2.write (bit0 epoch) (rootS epoch b.length)).1 = true := by simpa using g56
              have hl : rtLay epoch b d = ((d.spanPut (rtPlace epoch) b).2.sync.2.write (bit0 epoch) (rootS epoch b.length)).2.sync := (DM.also_yes g41).trans ((DM.also_yes g46).trans (DM.also_yes g56))
              refine KO.q rfl (q_move rfl) <| KO.loud rfl (OpL.callD rfl (h := dk_Sync p _ hw3)) ?_
              rintro _ _ ⟨_, ⟨rfl, rfl⟩, rfl⟩
              refine KO.q rfl (q_not rfl) <| KO.q rfl (q_pickF rfl rfl) <| KO.done ?_
              refine K.bcond (s := 60) rfl (fun g60 => ?_) (fun g60 => ?_)
              · refine K.seq <| K.region <| KO.q rfl (q_assign rfl) <| KO.done ?_
                refine kr1 Tryz.func73 Tryz.results73 rfl (fun w hs => ?_)
                rw [hr, hl, if_neg (by simpa using g60)]
                exact ⟨_, [A, DkX p ((d.spanPut (rtPlace epoch) b).2.sync.2.write (bit0 epoch) (rootS epoch b.length)).2.sync.2], rfl, ⟨rfl, rfl⟩, hs.fitD⟩
              · refine K.skip <| K.seq <| K.region <| KO.q rfl (q_assign rfl) <| KO.done ?_
                refine kr1 Tryz.func73 Tryz.results73 rfl (fun w hs => ?_)
                rw [hr, hl, if_pos (by simpa using g60)]
                exact ⟨_, [A, DkX p ((d.spanPut (rtPlace epoch) b).2.sync.2.write (bit0 epoch) (rootS epoch b.length)).2.sync.2], rfl, ⟨rfl, rfl⟩, hs.fitD⟩
end Go.Proofs.YtkbhldicnamcdaaGreat.L
namespace Go.Proofs.YtkbhldicnamcdaaGreat.L
open Go Go.Proofs
attribute [local irreducible] pv fv pt fz RowF RowO rowP old pure_ elA Rd.int Rd.text Rd.flag Rd.msg Rd.rint Rd.rtext Rd.rflag Rd.rmsg
set_option maxRecDepth 100000
set_option linter.unusedSimpArgs false
set_option linter.unusedVariables false
abbrev lgC (p : Nat) (g : Lg) (q : Option Addr) (n c : Nat) : List Value := [.pointer (some ⟨p, 0, none⟩), .int .i64 g.at_, .int .i64 g.end_, .int .i64 g.next, .int .i64 g.epoch, .slice q n c, .bool g.failed]
structure LgI (g : Lg) where
  q : Option Addr
  c : Nat
  R : List (Sl UInt8)
  hR : R.map (·.l) = g.recs
theorem LgI.len {g : Lg} (z : LgI g) : z.R.length = g.recs.length := by rw [← z.hR, List.length_map]
abbrev LgF (l p : Nat) (g : Lg) (z : LgI g) : List HP := [pv l 178 (lgC p g z.q z.R.length z.c), RowO Kd.sb 23 z.q z.c z.R, NestSl Kd.u8 z.R]
def lgI0 (g : Lg) : LgI g := ⟨none, 0, g.recs.map (fun s => ⟨none, 0, s⟩), by rw [List.map_map]; exact List.map_id' _⟩
theorem lg_fits (l p : Nat) (g : Lg) (q : Option Addr) (n c : Nat) (size : Int) (h : g.wf) (hn : size ≤ 9223372036854775807) : Fn Tryz.prog 148 [.pointer (some ⟨l, 0, none⟩), .int .i64 size].toArray [pv l 178 (lgC p g q n c)] (fun r post => r = .bool (g.fits size) ∧ post = [pv l 178 (lgC p g q n c)]) := by
  have hnx := h.nx
  have hpl := h.pl
  refine Fn.enter (N := 30) Tryz.func148 rfl Tryz.ntmps148 tK rfl (fun ρ L => ?_)
  refine K.seq <| K.region <| KO.q rfl (q_assign rfl) <| KO.done <| K.seq <| K.drawS [pv l 178 (lgC p g q n c)] (fun _ h => h.subD) mixed <| dq 0 rfl (q_move rfl) <| dq 1 rfl (q_nilCheck rfl) <| dq 2 rfl (q_field fo_178_2 rfl) <| dq 3 rfl (q_load1D ck_3 rfl) ?_
  refine dq 4 rfl (q_move rfl) <| dq 5 rfl (q_nilCheck rfl) <| dq 6 rfl (q_field fo_178_3 rfl) <| dq 7 rfl (q_load1D ck_3 rfl) <| dq 8 rfl (q_sub rfl rfl tN tN) <| dq 9 rfl (q_ge rfl rfl) <| dq 10 rfl (q_move rfl) ?_
  refine D.dsplit 15 rfl (fun g15 => ?_) (fun g15 => ?_)
  · refine dq 11 rfl (q_move rfl) <| dq 13 rfl (q_move rfl) <| dq 14 rfl (q_nilCheck rfl) <| dq 15 rfl (q_field fo_178_2 rfl) <| dq 16 rfl (q_load1D ck_3 rfl) <| dq 17 rfl (q_move rfl) <| dq 18 rfl (q_nilCheck rfl) <| dq 19 rfl (q_field fo_178_3 rfl) <| dq 20 rfl (q_load1D ck_3 rfl) <| dq 21 rfl (q_sub rfl rfl tN tN) ?_
    refine dq 22 rfl (q_sub rfl rfl tN tN) <| dq1 12 rfl (OpL.callD rfl (h := sp_Need _ tO)) (.inr (by rintro _ _ ⟨_, ⟨rfl, rfl⟩, rfl⟩ w h; exact h.subD)) ?_
    rintro _ _ ⟨_, ⟨rfl, rfl⟩, rfl⟩
    refine dq 23 rfl (q_le rfl rfl) <| dq 24 rfl (q_pickT rfl rfl) <| dq 25 rfl (q_assign rfl) <| D.done tK ?_
    refine kr1 Tryz.func148 Tryz.results148 rfl (fun w hs => ?_)
    exact ⟨_, [pv l 178 (lgC p g q n c)], rfl, ⟨congrArg Value.bool (by unfold Lg.fits; simp [*]), rfl⟩, hs.fitD⟩
  · refine D.skip 11 rfl tK tK (fun _ h => h.subD) <| D.skip 12 rfl tK tK (fun _ h => h.subD) <| D.skip 13 rfl tK tK (fun _ h => h.subD) <| D.skip 14 rfl tK tK (fun _ h => h.subD) <| D.skip 15 rfl tK tK (fun _ h => h.subD) <| D.skip 16 rfl tK tK (fun _ h => h.subD) <| D.skip 17 rfl tK tK (fun _ h => h.subD) <| D.skip 18 rfl tK tK (fun _ h => h.subD) <| D.skip 19 rfl tK tK (fun _ h => h.subD) <| D.skip 20 rfl tK tK (fun _ h => h.subD) ?_
    refine D.skip 21 rfl tK tK (fun _ h => h.subD) <| D.skip 22 rfl tK tK (fun _ h => h.subD) <| D.skip 23 rfl tK tK (fun _ h => h.subD) <| dq 24 rfl (q_pickF rfl rfl) <| dq 25 rfl (q_assign rfl) <| D.done tK ?_
    refine kr1 Tryz.func148 Tryz.results148 rfl (fun w hs => ?_)
    exact ⟨_, [pv l 178 (lgC p g q n c)], rfl, ⟨congrArg Value.bool (by unfold Lg.fits; simp [*]), rfl⟩, hs.fitD⟩
theorem lg_Room (l p : Nat) (g : Lg) (q : Option Addr) (n c : Nat) (h : g.wf) : Fn Tryz.prog 97 [.pointer (some ⟨l, 0, none⟩)].toArray [pv l 178 (lgC p g q n c)] (fun r post => r = .int .i64 g.room ∧ post = [pv l 178 (lgC p g q n c)]) := by
  have hnx := h.nx
  have hpl := h.pl
  refine Fn.enter (N := 17) Tryz.func97 rfl Tryz.ntmps97 tK rfl (fun ρ L => ?_)
  refine K.seq <| K.region <| KO.q rfl (q_assign rfl) <| KO.done <| K.seq <| K.seq <| K.region <| KO.q rfl (q_move rfl) <| KO.q rfl (q_pnil Tryz.underlying95 rfl rfl) <| KO.done <| K.no rfl ?_
  refine K.skip <| K.seq <| K.drawS [pv l 178 (lgC p g q n c)] (fun _ h => h.subD) mixed <| dq 0 rfl (q_move rfl) <| dq 1 rfl (q_nilCheck rfl) <| dq 2 rfl (q_field fo_178_2 rfl) <| dq 3 rfl (q_load1D ck_3 rfl) <| dq 4 rfl (q_move rfl) <| dq 5 rfl (q_nilCheck rfl) <| dq 6 rfl (q_field fo_178_3 rfl) <| dq 7 rfl (q_load1D ck_3 rfl) ?_
  refine dq 8 rfl (q_sub rfl rfl tN tN) <| dq 9 rfl (q_sub rfl rfl tN tN) <| dq 10 rfl (q_max rfl rfl) <| dq 11 rfl (q_mul rfl rfl tN tN) <| dq 12 rfl (q_assign rfl) <| D.done tK ?_
  refine kr1 Tryz.func97 Tryz.results97 rfl (fun w hs => ?_)
  exact ⟨_, [pv l 178 (lgC p g q n c)], rfl, ⟨rfl, rfl⟩, hs.fitD⟩
theorem lg_head (l p : Nat) (g : Lg) (q : Option Addr) (n c : Nat) (k size : Int) : Fn Tryz.prog 198 [.pointer (some ⟨l, 0, none⟩), .int .i64 k, .int .i64 size].toArray [pv l 178 (lgC p g q n c)] (fun r post => ∃ q', r = .slice q' (lgHead g.epoch k size).length 64 ∧ post = [RowF Kd.u8 q' (lgHead g.epoch k size), pv l 178 (lgC p g q n c)]) := by
  have hrl := lgHead_len g.epoch k size
  have hraw := head_raw g.epoch k size
  have hx : [] ++ wText recT ++ wInt g.epoch ++ wInt k ++ wInt size = wText recT ++ wInt g.epoch ++ wInt k ++ wInt size := by simp
  refine Fn.enter (N := 27) Tryz.func198 rfl Tryz.ntmps198 tK rfl (fun ρ L => ?_)
  refine K.seq <| K.region <| KO.q rfl (q_assign rfl) <| KO.done <| K.seq <| K.region <| KO.q rfl (q_build st_150 rfl tF) <| KO.loud rfl (l_box rfl rfl) ?_
  rintro _ _ ⟨b9, rfl, rfl⟩
  refine KO.q rfl (q_assign rfl) <| KO.done <| K.st (fun w h => rowO_nil (k := Kd.u8) 5 h) <| K.seq <| K.region <| KO.q rfl (q_move rfl) <| KO.loud rfl (OpL.callD rfl (h := wr_TextA b9 none 0 [] recT tD)) ?_
  rintro _ _ ⟨_, ⟨q1, c1, rfl, rfl⟩, rfl⟩
  refine KO.done <| K.seq <| K.region <| KO.q rfl (q_move rfl) <| KO.q rfl (q_move rfl) <| KO.q rfl (q_nilCheck rfl) <| KO.q rfl (q_field fo_178_4 rfl) <| KO.q rfl (q_load1D ck_3 rfl) ?_
  refine KO.loud rfl (OpL.callD rfl (h := wr_Int _ _ _ _ _ (by first | omega | (simp [wInt_length, wFlag_length, wText_length]; omega)))) ?_
  rintro _ _ ⟨_, ⟨q1, c1, rfl, rfl⟩, rfl⟩
  refine KO.done <| K.seq <| K.region <| KO.q rfl (q_move rfl) <| KO.q rfl (q_move rfl) ?_
  refine KO.loud rfl (OpL.callD rfl (h := wr_Int _ _ _ _ _ (by first | omega | (simp [wInt_length, wFlag_length, wText_length]; omega)))) ?_
  rintro _ _ ⟨_, ⟨q2, c2, rfl, rfl⟩, rfl⟩
  refine KO.done <| K.seq <| K.region <| KO.q rfl (q_move rfl) <| KO.q rfl (q_move rfl) ?_
  refine KO.loud rfl (OpL.callD rfl (h := wr_Int _ _ _ _ _ (by first | omega | (simp [wInt_length, wFlag_length, wText_length]; omega)))) ?_
  rintro _ _ ⟨_, ⟨q3, c3, rfl, rfl⟩, rfl⟩
  refine KO.done ?_
  rw [hx]
  refine K.seq <| K.region <| KO.q rfl (q_move rfl) <| KO.loud rfl (OpL.callD rfl (h := wr_Bytes _ _ _ (wText recT ++ wInt g.epoch ++ wInt k ++ wInt size) (by rw [hraw]; decide))) ?_
  rintro _ _ ⟨_, ⟨q5, c5, rfl, rfl, hc5⟩, rfl⟩
  refine KO.loud rfl (OpL.callD rfl (h := sp_Fill (RowF Kd.u8 q5 (wText recT ++ wInt g.epoch ++ wInt k ++ wInt size)) q5 c5 (wText recT ++ wInt g.epoch ++ wInt k ++ wInt size) isF (by rw [hraw]; decide) (by rw [hraw]; decide))) ?_
  rintro _ _ ⟨_, ⟨q6, rfl, rfl⟩, rfl⟩
  refine KO.q rfl (q_assign rfl) <| KO.done <| K.st (fun w h => rowO_freeze (h.pick tP)) ?_
  refine kr1 Tryz.func198 Tryz.results198 rfl (fun w hs => ?_)
  exact ⟨_, [RowF Kd.u8 q6 (lgHead g.epoch k size), pv l 178 (lgC p g q n c)], rfl, ⟨q6, by show Value.slice q6 (lgHead g.epoch k size).length (lgHead g.epoch k size).length = _; rw [hrl], rfl⟩, hs.fit (M := [RowF Kd.u8 q6 (fillB (wText recT ++ wInt g.epoch ++ wInt k ++ wInt size)), pv l 178 (lgC p g q n c)]) tG (by repeat (first | exact Drop.refl | apply Drop.skip))⟩
theorem Lg.step_no {d : Dk} {g : Lg} (h : Lg.size (d.read g.next) < 0 ∨ g.fits (Lg.size (d.read g.next)) = false ∨ ¬ d.read g.next = lgHead g.epoch (g.recs.length + 1) (Lg.size (d.read g.next))) : Lg.step d g = (false, g) := by
  unfold Lg.step
  rw [if_pos]
  rcases h with h | h | h <;> simp [h]
theorem Lg.step_yes {d : Dk} {g : Lg} (h1 : ¬ Lg.size (d.read g.next) < 0) (h2 : g.fits (Lg.size (d.read g.next)) = true) (h3 : d.read g.next = lgHead g.epoch (g.recs.length + 1) (Lg.size (d.read g.next))) :
    Lg.step d g = (true, { g with recs := g.recs ++ [d.spanGet (g.next + 1) (Lg.size (d.read g.next))], next := g.next + 1 + need (Lg.size (d.read g.next)) }) := by
  unfold Lg.step
  rw [if_neg]
  rw [decide_eq_true h3]
  simp [h1, h2]
set_option maxHeartbeats 1600000 in
theorem lg_read (l p : Nat) (d : Dk) (g : Lg) (z : LgI g) (h : g.wf) (hw : d.wf) : Fn Tryz.prog 167 [.pointer (some ⟨l, 0, none⟩)].toArray (LgF l p g z ++ [DkX p d]) (fun r post => ∃ z' : LgI (Lg.step d g).2, r = .bool (Lg.step d g).1 ∧ post = LgF l p (Lg.step d g).2 z' ++ [DkX p d]) := by
  have hnx := h.nx
  have hpl := h.pl
  have hzl := z.len
  have hgl := h.len
  have hrd := Dk.read_le hw g.next
  refine Fn.enter (N := 77) Tryz.func167 rfl Tryz.ntmps167 tK rfl (fun ρ L => ?_)
  refine K.seq <| K.region <| KO.q rfl (q_assign rfl) <| KO.done <| K.seq <| K.drawS [pv l 178 (lgC p g z.q z.R.length z.c)] (fun _ h => h.subD) mixed <| dq 0 rfl (q_move rfl) <| dq 1 rfl (q_nilCheck rfl) <| dq 2 rfl (q_field fo_178_0 rfl) <| dq 3 rfl (q_load1D ck_25 rfl) ?_
  refine dq 4 rfl (q_move rfl) <| dq 5 rfl (q_nilCheck rfl) <| dq 6 rfl (q_field fo_178_3 rfl) <| dq 7 rfl (q_load1D ck_3 rfl) <| dq1 8 rfl (OpL.callD rfl (h := dk_Read p d g.next hw)) (.inr (by rintro _ _ ⟨_, ⟨qr, cr, rfl, rfl, hqr⟩, rfl⟩ w h; exact h.subD)) ?_
  rintro _ _ ⟨_, ⟨qr, cr, rfl, rfl, hqr⟩, rfl⟩
  refine D.st (fun w h => rowO_freeze (h.pick tP)) <| dq 9 rfl (q_assign rfl) <| D.done tK <| K.seq <| K.region <| KO.q rfl (q_move rfl) <| KO.loud rfl (OpL.callD rfl (h := rd_New _ _ _ tN)) ?_
  rintro _ _ ⟨_, ⟨p1, q1, c1, rfl, rfl, hc1⟩, rfl⟩
  refine KO.q rfl (q_assign rfl) <| KO.done <| K.seq <| K.region <| KO.q rfl (q_move rfl) <| KO.loud rfl (OpL.callD rfl (h := rd_Text _ _ _ _ (by assumption))) ?_
  rintro _ _ ⟨_, ⟨q2, c2, rfl, rfl, hc2⟩, rfl⟩
  refine KO.done <| K.seq <| K.region <| KO.q rfl (q_move rfl) <| KO.loud rfl (OpL.callD rfl (h := rd_Int _ _ _ _ (by assumption))) ?_
  rintro _ _ ⟨_, ⟨q3, c3, rfl, rfl, hc3⟩, rfl⟩
  refine KO.done <| K.seq <| K.region <| KO.q rfl (q_move rfl) <| KO.loud rfl (OpL.callD rfl (h := rd_Int _ _ _ _ (by assumption))) ?_
  rintro _ _ ⟨_, ⟨q4, c4, rfl, rfl, hc4⟩, rfl⟩
  refine KO.done <| K.seq <| K.region <| KO.q rfl (q_move rfl) <| KO.loud rfl (OpL.callD rfl (h := rd_Int _ _ _ _ (by assumption))) ?_
  rintro _ _ ⟨_, ⟨q5, c5, rfl, rfl, hc5⟩, rfl⟩
  refine KO.q rfl (q_assign rfl) <| KO.done ?_
  have hb := Rd.int_bounds (Rd.int (Rd.int (Rd.text ⟨d.read g.next, false⟩).2).2).2
  have hsz : (Rd.int (Rd.int (Rd.int (Rd.text ⟨d.read g.next, false⟩).2).2).2).1 = Lg.size (d.read g.next) := rfl
  rw [hsz] at hb ⊢
  have hno := Lg.step_no (d := d) (g := g)
  have hyes := Lg.step_yes (d := d) (g := g)
  generalize Lg.size (d.read g.next) = n at hb hno hyes ⊢
  refine K.seq <| K.seq <| K.region <| KO.q rfl (q_move rfl) <| KO.q rfl (q_lt rfl rfl) <| KO.q rfl (q_move rfl) ?_
  refine KO.dsplit 27 rfl (fun g27 => ?_) (fun g27 => ?_)
  · have hst := hno (.inl g27)
    refine KO.skip rfl <| KO.skip rfl <| KO.skip rfl <| KO.skip rfl <| KO.q rfl (q_pickT rfl rfl) <| KO.q rfl (q_move rfl) <| KO.skip rfl <| KO.skip rfl <| KO.skip rfl <| KO.skip rfl ?_
    refine KO.skip rfl <| KO.skip rfl <| KO.skip rfl <| KO.skip rfl <| KO.skip rfl <| KO.skip rfl <| KO.skip rfl <| KO.skip rfl <| KO.q rfl (q_pickT rfl rfl) <| KO.done ?_
    refine K.yes rfl <| K.seq <| K.region <| KO.q rfl (q_assign rfl) <| KO.done ?_
    refine kr1 Tryz.func167 Tryz.results167 rfl (fun w hs => ?_)
    rw [hst]
    exact ⟨_, LgF l p g z ++ [DkX p d], rfl, ⟨z, rfl, rfl⟩, hs.fitD⟩
  · refine KO.q rfl (q_move rfl) <| KO.q rfl (q_move rfl) <| KO.loud rfl (OpL.callD rfl (h := lg_fits l p g z.q z.R.length z.c n h hb.2)) ?_
    rintro _ _ ⟨_, ⟨rfl, rfl⟩, rfl⟩
    refine KO.q rfl (q_not rfl) <| KO.q rfl (q_pickF rfl rfl) <| KO.q rfl (q_move rfl) ?_
    refine KO.split 33 rfl (fun g33 => ?_) (fun g33 => ?_)
    · have hst := hno (.inr (.inl (by simpa using g33)))
      refine KO.skip rfl <| KO.skip rfl <| KO.skip rfl <| KO.skip rfl <| KO.skip rfl <| KO.skip rfl <| KO.skip rfl <| KO.skip rfl <| KO.skip rfl <| KO.skip rfl ?_
      refine KO.skip rfl <| KO.skip rfl <| KO.q rfl (q_pickT rfl rfl) <| KO.done <| K.yes rfl <| K.seq <| K.region <| KO.q rfl (q_assign rfl) <| KO.done ?_
      refine kr1 Tryz.func167 Tryz.results167 rfl (fun w hs => ?_)
      rw [hst]
      exact ⟨_, LgF l p g z ++ [DkX p d], rfl, ⟨z, rfl, rfl⟩, hs.fitD⟩
    · have hfi : g.fits n = true := by simpa using g33
      have hsn := Lg.fits_size h tO hfi
      have hfi2 := Lg.fits_iff.1 hfi
      have hnn := need_nn n
      refine KO.q rfl (q_move rfl) <| KO.q rfl (q_move rfl) <| KO.q rfl (q_move rfl) <| KO.q rfl (q_nilCheck rfl) <| KO.q rfl (q_field fo_178_5 rfl) <| KO.q rfl (q_load1D ck_80 rfl) <| KO.q rfl (q_len Tryz.underlying80 rfl) <| KO.q rfl (q_add rfl rfl tN tN) <| KO.q rfl (q_move rfl) <| KO.loud rfl (OpL.callD rfl (h := lg_head l p g z.q z.R.length z.c ((z.R.length : Int) + 1) n)) ?_
      rintro _ _ ⟨_, ⟨qh, rfl, rfl⟩, rfl⟩
      refine KO.loud rfl (OpL.callD rfl (h := eq_u8 (RowF Kd.u8 qr (d.read g.next)) (RowF Kd.u8 qh (lgHead g.epoch ((z.R.length : Int) + 1) n)) qr qh cr 64 (d.read g.next) (lgHead g.epoch ((z.R.length : Int) + 1) n) isF isF tO)) ?_
      rintro _ _ ⟨_, ⟨rfl, rfl⟩, rfl⟩
      refine KO.q rfl (q_not rfl) <| KO.q rfl (q_pickF rfl rfl) <| KO.done ?_
      refine K.bcond (s := 46) rfl (fun g46 => ?_) (fun g46 => ?_)
      · have hst := hno (.inr (.inr (by rw [← hzl]; simpa using g46)))
        refine K.seq <| K.region <| KO.q rfl (q_assign rfl) <| KO.done ?_
        refine kr1 Tryz.func167 Tryz.results167 rfl (fun w hs => ?_)
        rw [hst]
        exact ⟨_, LgF l p g z ++ [DkX p d], rfl, ⟨z, rfl, rfl⟩, hs.fitD⟩
      · have hst := hyes g27 hfi (by rw [← hzl]; simpa using g46)
        have hgl := Dk.spanGet_le hw (g.next + 1) n
        refine K.skip <| K.seq <| K.drawS [pv l 178 (lgC p g z.q z.R.length z.c)] (fun _ h => h.subD) mixed <| dq 0 rfl (q_move rfl) <| dq 1 rfl (q_move rfl) <| dq 2 rfl (q_nilCheck rfl) <| dq 3 rfl (q_field fo_178_5 rfl) <| dq 4 rfl (q_load1D ck_80 rfl) <| dq 5 rfl (q_move rfl) <| dq 6 rfl (q_nilCheck rfl) <| dq 7 rfl (q_field fo_178_0 rfl) ?_
        refine dq 8 rfl (q_load1D ck_25 rfl) <| dq 9 rfl (q_move rfl) <| dq 10 rfl (q_nilCheck rfl) <| dq 11 rfl (q_field fo_178_3 rfl) <| dq 12 rfl (q_load1D ck_3 rfl) <| dq 13 rfl (q_add rfl rfl tN tN) <| dq 14 rfl (q_move rfl) <| dq1 15 rfl (OpL.callD rfl (h := sp_Get p d (g.next + 1) n hw)) (.inr (by rintro _ _ ⟨_, ⟨qg, cg, rfl, rfl, hcg⟩, rfl⟩ w h; exact h.subD)) ?_
        rintro _ _ ⟨_, ⟨qg, cg, rfl, rfl, hcg⟩, rfl⟩
        refine dq1 16 rfl (l_slice sz_80_1 rfl tF) (.inr (by rintro _ _ ⟨b63, rfl, rfl⟩ w h; exact h.subD)) ?_
        rintro _ _ ⟨b63, rfl, rfl⟩
        refine D.st (fun w h => pv_sl1 (l := d.spanGet (g.next + 1) n) rfl h) <| dq1 17 rfl (l_append Kd.sb (ys := [⟨qg, cg, d.spanGet (g.next + 1) n⟩]) se_80 Tryz.underlying80 ⟨_, ze_sb, rfl⟩ tD rfl rfl tP isP tM rfl rfl (by show (2 * (z.R.length + 1) + 768) * _ ≤ _; omega)) (.inr (by rintro _ _ ⟨q', c', rfl, rfl⟩ w h; exact h.subD)) ?_
        rintro _ _ ⟨q', c', rfl, rfl⟩
        refine dq1 18 rfl (OpQ.loud (q_nilCheck rfl)) (.inl tK) ?_
        rintro _ _ ⟨rfl, rfl⟩
        refine dq1 19 rfl (OpQ.loud (q_field fo_178_5 rfl)) (.inl tK) ?_
        rintro _ _ ⟨rfl, rfl⟩
        refine dq1N 20 rfl (l_store1 ck_80 rfl rfl rfl tP tA) (.inl tK) ?_
        rintro _ _ ⟨rfl, rfl⟩
        refine D.done tK <| K.seq <| K.drawS [pv l 178 (lgC p g q' (z.R ++ [(⟨qg, cg, d.spanGet (g.next + 1) n⟩ : Sl UInt8)]).length c')] (fun _ h => h.subD) mixed <| dq 0 rfl (q_move rfl) <| dq 1 rfl (q_nilCheck rfl) <| dq 2 rfl (q_field fo_178_3 rfl) <| dq 3 rfl (q_load1D ck_3 rfl) <| dq 4 rfl (q_move rfl) <| dq1 5 rfl (OpL.callD rfl (h := sp_Need _ tO)) (.inr (by rintro _ _ ⟨_, ⟨rfl, rfl⟩, rfl⟩ w h; exact h.subD)) ?_
        rintro _ _ ⟨_, ⟨rfl, rfl⟩, rfl⟩
        refine dq 6 rfl (q_add rfl rfl tN tN) <| dq 7 rfl (q_add rfl rfl tN tN) <| dq1 8 rfl (OpQ.loud (q_nilCheck rfl)) (.inl tK) ?_
        rintro _ _ ⟨rfl, rfl⟩
        refine dq1 9 rfl (OpQ.loud (q_field fo_178_3 rfl)) (.inl tK) ?_
        rintro _ _ ⟨rfl, rfl⟩
        refine dq1N 10 rfl (l_store1 ck_3 rfl rfl rfl tP tA) (.inl tK) ?_
        rintro _ _ ⟨rfl, rfl⟩
        refine D.done tK ?_
        rw [show g.next + (1 + need n) = g.next + 1 + need n by omega]
        refine K.st (fun w h => nestSl_add (l' := z.R ++ [⟨qg, cg, d.spanGet (g.next + 1) n⟩]) ⟨qg, cg, d.spanGet (g.next + 1) n⟩ (l := z.R) tM tM (fun x hx => (List.mem_append.1 hx).imp id List.mem_singleton.1) h) <| K.seq <| K.region <| KO.q rfl (q_assign rfl) <| KO.done ?_
        refine kr1 Tryz.func167 Tryz.results167 rfl (fun w hs => ?_)
        rw [hst]
        exact ⟨_, LgF l p _ ⟨q', c', z.R ++ [⟨qg, cg, d.spanGet (g.next + 1) n⟩], by rw [List.map_append, z.hR]; rfl⟩ ++ [DkX p d], rfl, ⟨_, rfl, rfl⟩, hs.fitD⟩
end Go.Proofs.YtkbhldicnamcdaaGreat.L
namespace Go.Proofs.YtkbhldicnamcdaaGreat.L
open Go Go.Proofs
attribute [local irreducible] pv fv pt fz RowF RowO rowP old pure_ elA Rd.int Rd.text Rd.flag Rd.msg Rd.rint Rd.rtext Rd.rflag Rd.rmsg
set_option maxRecDepth 100000
set_option linter.unusedSimpArgs false
set_option linter.unusedVariables false
theorem Lg.scan_stop {d : Dk} {n : Nat} {g : Lg} (h : g.fits 0 = false ∨ (Lg.step d g).1 = false) : Lg.scan d n g = g := by
  cases n with
  | zero => rfl
  | succ n =>
    unfold Lg.scan
    rcases h with h | h
    · rw [if_neg (by rw [h]; decide)]
    · split
      · rw [if_neg (by rw [h]; decide)]
      · rfl
theorem Lg.scan_go {d : Dk} {n : Nat} {g : Lg} (h1 : g.fits 0 = true) (h2 : (Lg.step d g).1 = true) : Lg.scan d (n + 1) g = Lg.scan d n (Lg.step d g).2 := by
  show (if g.fits 0 = true then _ else _) = _
  rw [if_pos h1, if_pos h2]
set_option maxHeartbeats 1600000 in
theorem lg_Open (p : Nat) (d : Dk) (at_ n epoch : Int) (hw : d.wf) (h0 : 0 ≤ at_) (hn : 0 ≤ n) (h1 : at_ + n ≤ (d.len : Int)) : Fn Tryz.prog 129 [.pointer (some ⟨p, 0, none⟩), .int .i64 at_, .int .i64 n, .int .i64 epoch].toArray [DkX p d]
    (fun r post => ∃ l, ∃ z : LgI (Lg.opened d at_ n epoch), r = .pointer (some ⟨l, 0, none⟩) ∧ post = LgF l p (Lg.opened d at_ n epoch) z ++ [DkX p d]) := by
  have h4 := hw.len
  have hly : d.lies at_ 0 = true := by unfold Dk.lies; simp; omega
  obtain ⟨m, rfl⟩ : ∃ m : Nat, n = (m : Int) := ⟨n.toNat, by omega⟩
  have hmx : at_ + max 0 (if (d.len : Int) - at_ < (m : Int) then (d.len : Int) - at_ else (m : Int)) = at_ + (m : Int) := by rw [if_neg tO]; omega
  have hg0 : Lg.wf ⟨at_, at_ + m, at_, epoch, [], false⟩ := ⟨⟨Int.le_refl _, by show at_ ≤ at_ + m; omega⟩, ⟨h0, by show at_ + (m : Int) ≤ 4096; omega⟩, by show (0 : Int) ≤ at_ - at_; omega, (fun b hb => by cases hb), by show (0 : Int) ≤ 64 * (at_ - at_); omega⟩
  refine Fn.enter (N := 39) Tryz.func129 rfl Tryz.ntmps129 tK rfl (fun ρ L => ?_)
  refine K.seq <| K.region <| KO.q rfl (q_assign rfl) <| KO.done <| K.seq <| K.region <| KO.q rfl (q_move rfl) <| KO.q rfl (q_move rfl) <| KO.q rfl (q_move rfl) <| KO.q rfl (q_move rfl) ?_
  refine KO.q rfl (q_move rfl) <| KO.q rfl (q_build st_178 rfl tF) <| KO.loud rfl (l_box rfl rfl) ?_
  rintro _ _ ⟨b16, rfl, rfl⟩
  refine KO.q rfl (q_assign rfl) <| KO.done <| K.seq <| K.seq <| K.region <| KO.q rfl (q_move rfl) <| KO.q rfl (q_move rfl) <| KO.loud rfl (OpL.callD rfl (h := sp_Is _ _ _ _ (by assumption))) ?_
  rintro _ _ ⟨_, ⟨rfl, rfl⟩, rfl⟩
  refine KO.done ?_
  refine K.bcond (s := 19) rfl (fun g19 => ?_) (fun g19 => ?_)
  · refine K.region <| KO.q rfl (q_move rfl) <| KO.q rfl (q_move rfl) <| KO.q rfl (q_move rfl) <| KO.q rfl (q_move rfl) <| KO.loud rfl (OpL.callD rfl (h := dk_Len _ _)) ?_
    rintro _ _ ⟨_, ⟨rfl, rfl⟩, rfl⟩
    refine KO.q rfl (q_move rfl) <| KO.q rfl (q_sub rfl rfl tN tN) <| KO.q rfl (q_min rfl rfl) <| KO.q rfl (q_max rfl rfl) <| KO.q rfl (q_add rfl rfl tN tN) <| KO.q rfl (q_nilCheck rfl) <| KO.q rfl (q_field fo_178_2 rfl) <| KO.loudN rfl (l_store1 ck_3 rfl rfl rfl tP tA) ?_
    rintro _ _ ⟨rfl, rfl⟩
    refine KO.done ?_
    rw [hmx]
    refine K.seq <| K.block ?_
    refine K.rounds2 (ι := { x : Nat × (Σ g : Lg, LgI g) // Lg.scan d m ⟨at_, at_ + m, at_, epoch, [], false⟩ = Lg.scan d x.1 x.2.1 ∧ x.2.1.wf ∧ x.2.1.end_ - x.2.1.next ≤ (x.1 : Int) }) (fun x => [(9, .pointer (some ⟨b16, 0, none⟩))]) (fun x => LgF b16 p x.1.2.1 x.1.2.2 ++ [DkX p d] ++ L) (fun x => x.1.1) ⟨(m, ⟨⟨at_, at_ + m, at_, epoch, [], false⟩, ⟨none, 0, [], rfl⟩⟩), rfl, hg0, by show at_ + (m : Int) - at_ ≤ m; omega⟩ tS (fun w h => (nestSl_nil (k := Kd.u8) (rowO_nil (k := Kd.sb) 23 h)).fitD) (fun x ih => ?_)
    obtain ⟨⟨j, ⟨g, z⟩⟩, hsc, hg, hj⟩ := x
    dsimp only at hsc hg hj ⊢
    refine K.seq <| K.seq <| K.region <| KO.q rfl (q_move rfl) <| KO.loud rfl (OpL.callD rfl (h := lg_fits b16 p g z.q z.R.length z.c 0 hg tD)) ?_
    rintro _ _ ⟨_, ⟨rfl, rfl⟩, rfl⟩
    refine KO.q rfl (q_move rfl) ?_
    refine KO.split 34 rfl (fun g34 => ?_) (fun g34 => ?_)
    · refine KO.q rfl (q_move rfl) <| KO.loud rfl (OpL.callD rfl (h := lg_read b16 p d g z hg hw)) ?_
      rintro _ _ ⟨_, ⟨z2, rfl, rfl⟩, rfl⟩
      refine KO.q rfl (q_pickT rfl rfl) <| KO.done ?_
      refine K.bcond (s := 37) rfl (fun g37 => ?_) (fun g37 => ?_)
      · refine K.skip <| K.block <| K.skip <| K.inBlock ?_
        obtain ⟨i, rfl⟩ : ∃ i, j = i + 1 := ⟨j - 1, by have := (Lg.fits_iff.1 g34).1; omega⟩
        have hdn := Lg.step_down g37
        exact K.weak tS (fun w h => h.fitD) (ih ⟨(i, ⟨(Lg.step d g).2, z2⟩), by rw [hsc]; exact Lg.scan_go g34 g37, Lg.step_wf hw hg, by show (Lg.step d g).2.end_ - (Lg.step d g).2.next ≤ (i : Int); rw [Lg.step_end]; omega⟩ (by show i < i + 1; omega))
      · have hfin : Lg.opened d at_ m epoch = g := by unfold Lg.opened; rw [Int.toNat_natCast, hsc]; exact Lg.scan_stop (.inr g37)
        have hstp : (Lg.step d g).2 = g := by
          unfold Lg.step at g37 ⊢
          split
          · rfl
          · rename_i hc; rw [if_neg hc] at g37; cases g37
        clear ih
        refine K.exit rfl <| K.seq <| K.region <| KO.q rfl (q_move rfl) <| KO.q rfl (q_assign rfl) <| KO.done ?_
        refine kr1 Tryz.func129 Tryz.results129 rfl (fun w hs => ?_)
        rw [hfin, ← hstp]
        exact ⟨_, LgF b16 p (Lg.step d g).2 z2 ++ [DkX p d], rfl, ⟨b16, z2, rfl, rfl⟩, hs.fitD⟩
    · have hfin : Lg.opened d at_ m epoch = g := by unfold Lg.opened; rw [Int.toNat_natCast, hsc]; exact Lg.scan_stop (.inl g34)
      clear ih
      refine KO.skip rfl <| KO.skip rfl <| KO.q rfl (q_pickF rfl rfl) <| KO.done <| K.no rfl <| K.exit rfl <| K.seq <| K.region <| KO.q rfl (q_move rfl) <| KO.q rfl (q_assign rfl) ?_
      refine KO.done ?_
      refine kr1 Tryz.func129 Tryz.results129 rfl (fun w hs => ?_)
      rw [hfin]
      exact ⟨_, LgF b16 p g z ++ [DkX p d], rfl, ⟨b16, z, rfl, rfl⟩, hs.fitD⟩
  · rw [hly] at g19; cases g19
theorem lg_Records (l p : Nat) (g : Lg) (z : LgI g) (h : g.wf) : Fn Tryz.prog 69 [.pointer (some ⟨l, 0, none⟩)].toArray (LgF l p g z) (fun r post => ∃ q c, ∃ R : List (Sl UInt8), r = .slice q R.length c ∧ R.map (·.l) = g.recs ∧ (∀ x ∈ R, x.l.length ≤ x.c) ∧ post = RowO Kd.sb 23 q c R :: NestSl Kd.u8 R :: LgF l p g z) := by
  have hzl := z.len
  have hgl := h.len
  refine Fn.enter (N := 24) Tryz.func69 rfl Tryz.ntmps69 tK rfl (fun ρ L => ?_)
  refine K.seq <| K.region <| KO.q rfl (q_assign rfl) <| KO.done <| K.seq <| K.seq <| K.region <| KO.q rfl (q_move rfl) <| KO.q rfl (q_pnil Tryz.underlying95 rfl rfl) <| KO.done <| K.no rfl ?_
  refine K.skip <| K.seq <| K.region <| KO.q rfl (q_assign rfl) <| KO.done <| K.seq <| K.seq <| K.region <| KO.q rfl (q_move rfl) <| KO.q rfl (q_nilCheck rfl) <| KO.q rfl (q_field fo_178_5 rfl) <| KO.q rfl (q_load1D ck_80 rfl) ?_
  refine KO.q rfl (q_len Tryz.underlying80 rfl) <| KO.q rfl (q_move rfl) <| KO.done <| K.block ?_
  refine K.rounds2 (ι := { x : Nat × Option Addr × Nat × List (Sl UInt8) // x.1 ≤ z.R.length ∧ x.2.2.2.map (·.l) = (z.R.take x.1).map (·.l) ∧ ∀ y ∈ x.2.2.2, y.l.length ≤ y.c }) (fun x => [(13, .int .i64 x.1.1), (12, .int .i64 z.R.length), (11, .slice z.q z.R.length z.c), (3, .slice x.1.2.1 x.1.2.2.2.length x.1.2.2.1)]) (fun x => RowO Kd.sb 23 x.1.2.1 x.1.2.2.1 x.1.2.2.2 :: NestSl Kd.u8 x.1.2.2.2 :: LgF l p g z ++ L) (fun x => z.R.length - x.1.1) ⟨(0, none, 0, []), Nat.zero_le _, rfl, fun y hy => by cases hy⟩ tS (fun w h => (nestSl_nil (k := Kd.u8) (rowO_nil (k := Kd.sb) 23 h)).fitD) (fun x ih => ?_)
  obtain ⟨⟨i, q, c, R⟩, hi, hR, hcp⟩ := x
  dsimp only at hi hR hcp ⊢
  have hRl : R.length = i := by have := congrArg List.length hR; simp at this; omega
  refine K.seq <| K.region <| KO.q rfl (q_lt rfl rfl) <| KO.done <| K.seq ?_
  refine K.dcond (s := 14) rfl (fun g14 => ?_) (fun g14 => ?_)
  · obtain ⟨s, hsR⟩ : ∃ s, z.R[i]? = some s := ⟨_, List.getElem?_eq_getElem tO⟩
    have hsg : s.l ∈ g.recs := by rw [← z.hR]; exact List.mem_map_of_mem (List.mem_of_getElem? hsR)
    have hs64 := h.sz _ hsg
    refine K.st (fun w h => nestSl_at (l := z.R) (s := s) tM (List.mem_of_getElem? hsR) h) ?_
    refine K.skip <| K.seq <| K.block <| K.seq <| K.region <| KO.q rfl (q_ix (xs := z.R) i se_80 rfl rfl rfl isO tM rfl tO) <| KO.q rfl (q_ldE (xs := z.R) (el := s) ck_23 rfl isO tM hsR rfl) <| KO.q rfl (q_assign rfl) <| KO.done <| K.region <| KO.q rfl (q_move rfl) <| KO.q rfl (q_move rfl) <| KO.loud rfl (OpL.callD rfl (h := clone_u8 (RowF Kd.u8 s.q s.l) s.q s.c s.l isF tO)) ?_
    rintro _ _ ⟨_, ⟨q', c', rfl, rfl, hqc⟩, rfl⟩
    refine KO.loud rfl (l_slice sz_80_1 rfl tF) ?_
    rintro _ _ ⟨b20, rfl, rfl⟩
    refine KO.st (fun w h => pv_sl1 (l := s.l) rfl h) <| KO.loud rfl (l_append Kd.sb (ys := [⟨q', c', s.l⟩]) se_80 Tryz.underlying80 ⟨_, ze_sb, rfl⟩ tD rfl rfl tP isP tM rfl rfl (by show (2 * (R.length + 1) + 768) * _ ≤ _; omega)) ?_
    rintro _ _ ⟨q2, c2, rfl, rfl⟩
    refine KO.q rfl (q_assign rfl) <| KO.done <| K.inBlock <| K.region <| KO.q rfl (q_add rfl rfl tN tN) <| KO.q rfl (q_move rfl) <| KO.done <| K.st (fun w h => rowO_freeze (k := Kd.u8) (e := 5) (p := q') (cap := c') (xs := s.l) (h.pick tP)) <| K.st (fun w h => nestSl_add (l' := R ++ [⟨q', c', s.l⟩]) ⟨q', c', s.l⟩ (l := R) tM tM (fun x hx => (List.mem_append.1 hx).imp id List.mem_singleton.1) h) ?_
    exact K.weak tS (fun w h => h.fitD) (ih ⟨(i + 1, q2, c2, R ++ [⟨q', c', s.l⟩]), by show i + 1 ≤ _; omega, by show (R ++ [_]).map _ = _; rw [List.map_append, hR, List.take_add_one, hsR, List.map_append]; rfl, fun y hy => by
      rcases List.mem_append.1 hy with hy | hy
      · exact hcp y hy
      · rw [List.mem_singleton.1 hy]; exact hqc⟩ (by show z.R.length - (i + 1) < z.R.length - i; omega))
  · obtain rfl : i = z.R.length := by omega
    rw [List.take_length, z.hR] at hR
    clear ih
    refine K.exit rfl <| K.seq <| K.region <| KO.q rfl (q_move rfl) <| KO.q rfl (q_assign rfl) <| KO.done ?_
    refine kr1 Tryz.func69 Tryz.results69 rfl (fun w hs => ?_)
    exact ⟨_, RowO Kd.sb 23 q c R :: NestSl Kd.u8 R :: LgF l p g z, rfl, ⟨q, c, R, rfl, hR, hcp, rfl⟩, hs.fitD⟩
set_option maxHeartbeats 3200000 in
theorem lg_put (A : HP) (l p : Nat) (d : Dk) (g : Lg) (q : Option Addr) (n c : Nat) (qb : Option Addr) (cb : Nat) (b : List UInt8) (hA : IsRow A Kd.u8 qb b) (h : g.wf) (hn : n = g.recs.length) (hw : d.wf) (hc : d.cnt ≤ 80000000) (hb : b.length ≤ 1000000) : Fn Tryz.prog 149 [.pointer (some ⟨l, 0, none⟩), .slice qb b.length cb].toArray [A, pv l 178 (lgC p g q n c), DkX p d]
    (fun r post => r = .bool (g.lay b d).1 ∧ post = [A, pv l 178 (lgC p g q n c), DkX p (g.lay b d).2]) := by
  have hnx := h.nx
  have hpl := h.pl
  have hgl := h.len
  have hnl := need_le (n := (b.length : Int)) (Int.natCast_nonneg _)
  have hnn := need_nn (b.length : Int)
  have hw1 := hw.spanPut (g.next + 1) b
  have hc1 := d.spanPut_cnt (g.next + 1) b
  have hz64 := zSec_len
  have hl1 := lgHead_len g.epoch (g.recs.length + 1) b.length
  have hbe : g.next + 1 + need b.length = g.behind b := rfl
  subst hn
  refine Fn.enter (N := 76) Tryz.func149 rfl Tryz.ntmps149 tK rfl (fun ρ L => ?_)
  refine K.seq <| K.region <| KO.q rfl (q_assign rfl) <| KO.done <| K.seq <| K.drawS [pv l 178 (lgC p g q g.recs.length c)] (fun _ h => h.subD) mixed <| dq 0 rfl (q_move rfl) <| dq 1 rfl (q_nilCheck rfl) <| dq 2 rfl (q_field fo_178_3 rfl) <| dq 3 rfl (q_load1D ck_3 rfl) ?_
  refine dq 4 rfl (q_add rfl rfl tN tN) <| dq 5 rfl (q_move rfl) <| dq 6 rfl (q_len Tryz.underlying23 rfl) <| dq1 7 rfl (OpL.callD rfl (h := sp_Need _ tO)) (.inr (by rintro _ _ ⟨_, ⟨rfl, rfl⟩, rfl⟩ w h; exact h.subD)) ?_
  rintro _ _ ⟨_, ⟨rfl, rfl⟩, rfl⟩
  refine dq 8 rfl (q_add rfl rfl tN tN) <| dq 9 rfl (q_assign rfl) <| D.done tK ?_
  rw [hbe]
  refine K.seq <| K.seq <| K.drawS [pv l 178 (lgC p g q g.recs.length c)] (fun _ h => h.subD) mixed <| dq 0 rfl (q_move rfl) <| dq 1 rfl (q_nilCheck rfl) <| dq 2 rfl (q_field fo_178_0 rfl) <| dq 3 rfl (q_load1D ck_25 rfl) <| dq 4 rfl (q_move rfl) <| dq 5 rfl (q_nilCheck rfl) <| dq 6 rfl (q_field fo_178_3 rfl) <| dq 7 rfl (q_load1D ck_3 rfl) ?_
  refine dq 8 rfl (q_add rfl rfl tN tN) <| dq 9 rfl (q_move rfl) <| dq1 10 rfl (OpL.callD rfl (h := sp_Put A p d (g.next + 1) qb cb b hA hw tO hb)) (.inr (by rintro _ _ ⟨_, ⟨rfl, rfl⟩, rfl⟩ w h; exact h.subD)) ?_
  rintro _ _ ⟨_, ⟨rfl, rfl⟩, rfl⟩
  refine dq 11 rfl (q_not rfl) <| D.done tK ?_
  refine K.bcond (s := 26) rfl (fun g26 => ?_) (fun g26 => ?_)
  · have g26 : (d.spanPut (g.next + 1) b).1 = false := by simpa using g26
    have hl : g.lay b d = (false, (d.spanPut (g.next + 1) b).2) := DM.also_no g26
    refine K.seq <| K.region <| KO.q rfl (q_assign rfl) <| KO.done ?_
    refine kr1 Tryz.func149 Tryz.results149 rfl (fun w hs => ?_)
    rw [hl]
    exact ⟨_, [A, pv l 178 (lgC p g q g.recs.length c), DkX p (d.spanPut (g.next + 1) b).2], rfl, ⟨rfl, rfl⟩, hs.fitD⟩
  · have g26 : (d.spanPut (g.next + 1) b).1 = true := by simpa using g26
    obtain ⟨d1, hd1⟩ : ∃ d1, d1 = (d.spanPut (g.next + 1) b).2 := ⟨_, rfl⟩
    have hl : g.lay b d = _ := DM.also_yes g26
    rw [← hd1] at hw1 hc1 hl ⊢
    have hwz := hw1.write (g.behind b) zSec
    have hcz := d1.write_cnt (g.behind b) zSec
    refine K.skip <| K.seq <| K.seq <| K.drawS [pv l 178 (lgC p g q g.recs.length c)] (fun _ h => h.subD) mixed <| dq 0 rfl (q_move rfl) <| dq 1 rfl (q_move rfl) <| dq 2 rfl (q_nilCheck rfl) <| dq 3 rfl (q_field fo_178_2 rfl) <| dq 4 rfl (q_load1D ck_3 rfl) <| dq 5 rfl (q_lt rfl rfl) <| dq 6 rfl (q_move rfl) ?_
    refine D.dsplit 33 rfl (fun g33 => ?_) (fun g33 => ?_)
    · refine dq 7 rfl (q_move rfl) <| dq 8 rfl (q_nilCheck rfl) <| dq 9 rfl (q_field fo_178_0 rfl) <| dq 10 rfl (q_load1D ck_25 rfl) <| dq 11 rfl (q_move rfl) <| dq1 12 rfl (l_make Kd.u8 0 (m := 64) se_23 ze_5 rfl (fun _ => rfl) rfl rfl tD tD) (.inr (by rintro _ _ ⟨pm, rfl, rfl⟩ w h; exact h.subD)) ?_
      rintro _ _ ⟨pm, rfl, rfl⟩
      refine dq1 13 rfl (OpL.callD rfl (h := dk_Write (RowO Kd.u8 5 pm 64 (List.replicate 64 0)) p d1 (g.behind b) pm 64 zSec isO hw1 tO)) (.inr (by rintro _ _ ⟨_, ⟨rfl, rfl⟩, rfl⟩ w h; exact h.subD)) ?_
      rintro _ _ ⟨_, ⟨rfl, rfl⟩, rfl⟩
      refine dq 14 rfl (q_not rfl) <| dq 15 rfl (q_pickT rfl rfl) <| D.done tK ?_
      refine K.bcond (s := 42) rfl (fun g42 => ?_) (fun g42 => ?_)
      · have g42 : (d1.write (g.behind b) zSec).1 = false := by simpa using g42
        have hl2 : g.lay b d = (false, (d1.write (g.behind b) zSec).2) := by
          rw [hl]; refine (DM.also_no ?_).trans ?_
          · show (if g.behind b < g.end_ then d1.write (g.behind b) zSec else (true, d1)).1 = false; rw [if_pos g33]; exact g42
          · show (false, (if g.behind b < g.end_ then d1.write (g.behind b) zSec else (true, d1)).2) = _; rw [if_pos g33]
        refine K.seq <| K.region <| KO.q rfl (q_assign rfl) <| KO.done ?_
        refine kr1 Tryz.func149 Tryz.results149 rfl (fun w hs => ?_)
        rw [hl2]
        exact ⟨_, [A, pv l 178 (lgC p g q g.recs.length c), DkX p (d1.write (g.behind b) zSec).2], rfl, ⟨rfl, rfl⟩, hs.fitD⟩
      · refine K.skip <| K.seq ?_
        have g42 : (d1.write (g.behind b) zSec).1 = true := by simpa using g42
        obtain ⟨d2, hd2⟩ : ∃ d2, d2 = (d1.write (g.behind b) zSec).2 := ⟨_, rfl⟩
        have hl2 : g.lay b d = DM.also Dk.sync (DM.also (fun d => d.write g.next (lgHead g.epoch (g.recs.length + 1) b.length)) Dk.sync) d2 := by
          rw [hl, hd2]; refine (DM.also_yes ?_).trans ?_
          · show (if g.behind b < g.end_ then d1.write (g.behind b) zSec else (true, d1)).1 = true; rw [if_pos g33]; exact g42
          · show DM.also _ _ (if g.behind b < g.end_ then d1.write (g.behind b) zSec else (true, d1)).2 = _; rw [if_pos g33]
        rw [← hd2] at hwz hcz ⊢
        refine K.drawS [pv l 178 (lgC p g q g.recs.length c)] (fun _ h => h.subD) mixed <| dq 0 rfl (q_move rfl) <| dq 1 rfl (q_nilCheck rfl) <| dq 2 rfl (q_field fo_178_0 rfl) <| dq 3 rfl (q_load1D ck_25 rfl) <| dq1 4 rfl (OpL.callD rfl (h := dk_Sync p d2 hwz)) (.inr (by rintro _ _ ⟨_, ⟨rfl, rfl⟩, rfl⟩ w h; exact h.subD)) ?_
        rintro _ _ ⟨_, ⟨rfl, rfl⟩, rfl⟩
        refine dq 5 rfl (q_move rfl) ?_
        refine D.split 48 rfl (fun g48 => ?_) (fun g48 => ?_)
        · have hl3 := hl2.trans (DM.also_yes g48)
          have hw3 := hwz.sync
          have hc3 := Dk.sync_cnt d2
          have hw4 := hw3.write g.next (lgHead g.epoch (g.recs.length + 1) b.length)
          refine dq 6 rfl (q_move rfl) <| dq 7 rfl (q_nilCheck rfl) <| dq 8 rfl (q_field fo_178_0 rfl) <| dq 9 rfl (q_load1D ck_25 rfl) <| dq 10 rfl (q_move rfl) <| dq 11 rfl (q_nilCheck rfl) <| dq 12 rfl (q_field fo_178_3 rfl) <| dq 13 rfl (q_load1D ck_3 rfl) <| dq 14 rfl (q_move rfl) <| dq 15 rfl (q_move rfl) ?_
          refine dq 16 rfl (q_nilCheck rfl) <| dq 17 rfl (q_field fo_178_5 rfl) <| dq 18 rfl (q_load1D ck_80 rfl) <| dq 19 rfl (q_len Tryz.underlying80 rfl) <| dq 20 rfl (q_add rfl rfl tN tN) <| dq 21 rfl (q_move rfl) <| dq 22 rfl (q_len Tryz.underlying23 rfl) <| dq1 23 rfl (OpL.callD rfl (h := lg_head l p g q g.recs.length c ((g.recs.length : Int) + 1) b.length)) (.inr (by rintro _ _ ⟨_, ⟨qh, rfl, rfl⟩, rfl⟩ w h; exact h.subD)) ?_
          rintro _ _ ⟨_, ⟨qh, rfl, rfl⟩, rfl⟩
          refine dq1 24 rfl (OpL.callD rfl (h := dk_Write (RowF Kd.u8 qh (lgHead g.epoch ((g.recs.length : Int) + 1) b.length)) p d2.sync.2 g.next qh 64 (lgHead g.epoch ((g.recs.length : Int) + 1) b.length) isF hw3 tO)) (.inr (by rintro _ _ ⟨_, ⟨rfl, rfl⟩, rfl⟩ w h; exact h.subD)) ?_
          rintro _ _ ⟨_, ⟨rfl, rfl⟩, rfl⟩
          refine dq 25 rfl (q_pickT rfl rfl) <| dq 26 rfl (q_move rfl) ?_
          refine D.split 69 rfl (fun g69 => ?_) (fun g69 => ?_)
          · have hl4 := hl3.trans (DM.also_yes g69)
            refine dq 27 rfl (q_move rfl) <| dq 28 rfl (q_nilCheck rfl) <| dq 29 rfl (q_field fo_178_0 rfl) <| dq 30 rfl (q_load1D ck_25 rfl) <| dq1 31 rfl (OpL.callD rfl (h := dk_Sync p _ hw4)) (.inr (by rintro _ _ ⟨_, ⟨rfl, rfl⟩, rfl⟩ w h; exact h.subD)) ?_
            rintro _ _ ⟨_, ⟨rfl, rfl⟩, rfl⟩
            refine dq 32 rfl (q_pickT rfl rfl) <| dq 33 rfl (q_assign rfl) <| D.done tK ?_
            refine kr1 Tryz.func149 Tryz.results149 rfl (fun w hs => ?_)
            rw [hl4]
            exact ⟨_, [A, pv l 178 (lgC p g q g.recs.length c), DkX p (d2.sync.2.write g.next (lgHead g.epoch ((g.recs.length : Int) + 1) b.length)).2.sync.2], rfl, ⟨rfl, rfl⟩, hs.fitD⟩
          · have hl4 := hl3.trans (DM.also_no g69)
            refine D.skip 27 rfl tK tK (fun _ h => h.subD) <| D.skip 28 rfl tK tK (fun _ h => h.subD) <| D.skip 29 rfl tK tK (fun _ h => h.subD) <| D.skip 30 rfl tK tK (fun _ h => h.subD) <| D.skip 31 rfl tK tK (fun _ h => h.subD) <| dq 32 rfl (q_pickF rfl rfl) <| dq 33 rfl (q_assign rfl) <| D.done tK ?_
            refine kr1 Tryz.func149 Tryz.results149 rfl (fun w hs => ?_)
            rw [hl4]
            exact ⟨_, [A, pv l 178 (lgC p g q g.recs.length c), DkX p (d2.sync.2.write g.next (lgHead g.epoch ((g.recs.length : Int) + 1) b.length)).2], rfl, ⟨rfl, rfl⟩, hs.fitD⟩
        · have hl3 := hl2.trans (DM.also_no g48)
          refine D.skip 6 rfl tK tK (fun _ h => h.subD) <| D.skip 7 rfl tK tK (fun _ h => h.subD) <| D.skip 8 rfl tK tK (fun _ h => h.subD) <| D.skip 9 rfl tK tK (fun _ h => h.subD) <| D.skip 10 rfl tK tK (fun _ h => h.subD) <| D.skip 11 rfl tK tK (fun _ h => h.subD) <| D.skip 12 rfl tK tK (fun _ h => h.subD) <| D.skip 13 rfl tK tK (fun _ h => h.subD) <| D.skip 14 rfl tK tK (fun _ h => h.subD) <| D.skip 15 rfl tK tK (fun _ h => h.subD) ?_
          refine D.skip 16 rfl tK tK (fun _ h => h.subD) <| D.skip 17 rfl tK tK (fun _ h => h.subD) <| D.skip 18 rfl tK tK (fun _ h => h.subD) <| D.skip 19 rfl tK tK (fun _ h => h.subD) <| D.skip 20 rfl tK tK (fun _ h => h.subD) <| D.skip 21 rfl tK tK (fun _ h => h.subD) <| D.skip 22 rfl tK tK (fun _ h => h.subD) <| D.skip 23 rfl tK tK (fun _ h => h.subD) <| D.skip 24 rfl tK tK (fun _ h => h.subD) <| dq 25 rfl (q_pickF rfl rfl) ?_
          refine dq 26 rfl (q_move rfl) <| D.skip 27 rfl tK tK (fun _ h => h.subD) <| D.skip 28 rfl tK tK (fun _ h => h.subD) <| D.skip 29 rfl tK tK (fun _ h => h.subD) <| D.skip 30 rfl tK tK (fun _ h => h.subD) <| D.skip 31 rfl tK tK (fun _ h => h.subD) <| dq 32 rfl (q_pickF rfl rfl) <| dq 33 rfl (q_assign rfl) <| D.done tK ?_
          refine kr1 Tryz.func149 Tryz.results149 rfl (fun w hs => ?_)
          rw [hl3]
          exact ⟨_, [A, pv l 178 (lgC p g q g.recs.length c), DkX p d2.sync.2], rfl, ⟨rfl, rfl⟩, hs.fitD⟩
    · refine D.skip 7 rfl tK tK (fun _ h => h.subD) <| D.skip 8 rfl tK tK (fun _ h => h.subD) <| D.skip 9 rfl tK tK (fun _ h => h.subD) <| D.skip 10 rfl tK tK (fun _ h => h.subD) <| D.skip 11 rfl tK tK (fun _ h => h.subD) <| D.skip 12 rfl tK tK (fun _ h => h.subD) <| D.skip 13 rfl tK tK (fun _ h => h.subD) <| D.skip 14 rfl tK tK (fun _ h => h.subD) <| dq 15 rfl (q_pickF rfl rfl) <| D.done tK ?_
      refine K.no rfl <| K.skip <| K.seq ?_
      obtain ⟨d2, hd2⟩ : ∃ d2, d2 = d1 := ⟨_, rfl⟩
      have hl2 : g.lay b d = DM.also Dk.sync (DM.also (fun d => d.write g.next (lgHead g.epoch (g.recs.length + 1) b.length)) Dk.sync) d2 := by
        rw [hl, hd2]; refine (DM.also_yes ?_).trans ?_
        · show (if g.behind b < g.end_ then d1.write (g.behind b) zSec else (true, d1)).1 = true; rw [if_neg g33]
        · show DM.also _ _ (if g.behind b < g.end_ then d1.write (g.behind b) zSec else (true, d1)).2 = _; rw [if_neg g33]
      have hwz := hw1
      have hcz : d1.cnt ≤ d1.cnt ∧ d1.cnt ≤ d1.cnt + 1 := ⟨Nat.le_refl _, Nat.le_succ _⟩
      rw [← hd2] at hwz hcz hc1 ⊢
      refine K.drawS [pv l 178 (lgC p g q g.recs.length c)] (fun _ h => h.subD) mixed <| dq 0 rfl (q_move rfl) <| dq 1 rfl (q_nilCheck rfl) <| dq 2 rfl (q_field fo_178_0 rfl) <| dq 3 rfl (q_load1D ck_25 rfl) <| dq1 4 rfl (OpL.callD rfl (h := dk_Sync p d2 hwz)) (.inr (by rintro _ _ ⟨_, ⟨rfl, rfl⟩, rfl⟩ w h; exact h.subD)) ?_
      rintro _ _ ⟨_, ⟨rfl, rfl⟩, rfl⟩
      refine dq 5 rfl (q_move rfl) ?_
      refine D.split 48 rfl (fun g48 => ?_) (fun g48 => ?_)
      · have hl3 := hl2.trans (DM.also_yes g48)
        have hw3 := hwz.sync
        have hc3 := Dk.sync_cnt d2
        have hw4 := hw3.write g.next (lgHead g.epoch (g.recs.length + 1) b.length)
        refine dq 6 rfl (q_move rfl) <| dq 7 rfl (q_nilCheck rfl) <| dq 8 rfl (q_field fo_178_0 rfl) <| dq 9 rfl (q_load1D ck_25 rfl) <| dq 10 rfl (q_move rfl) <| dq 11 rfl (q_nilCheck rfl) <| dq 12 rfl (q_field fo_178_3 rfl) <| dq 13 rfl (q_load1D ck_3 rfl) <| dq 14 rfl (q_move rfl) <| dq 15 rfl (q_move rfl) ?_
        refine dq 16 rfl (q_nilCheck rfl) <| dq 17 rfl (q_field fo_178_5 rfl) <| dq 18 rfl (q_load1D ck_80 rfl) <| dq 19 rfl (q_len Tryz.underlying80 rfl) <| dq 20 rfl (q_add rfl rfl tN tN) <| dq 21 rfl (q_move rfl) <| dq 22 rfl (q_len Tryz.underlying23 rfl) <| dq1 23 rfl (OpL.callD rfl (h := lg_head l p g q g.recs.length c ((g.recs.length : Int) + 1) b.length)) (.inr (by rintro _ _ ⟨_, ⟨qh, rfl, rfl⟩, rfl⟩ w h; exact h.subD)) ?_
        rintro _ _ ⟨_, ⟨qh, rfl, rfl⟩, rfl⟩
        refine dq1 24 rfl (OpL.callD rfl (h := dk_Write (RowF Kd.u8 qh (lgHead g.epoch ((g.recs.length : Int) + 1) b.length)) p d2.sync.2 g.next qh 64 (lgHead g.epoch ((g.recs.length : Int) + 1) b.length) isF hw3 tO)) (.inr (by rintro _ _ ⟨_, ⟨rfl, rfl⟩, rfl⟩ w h; exact h.subD)) ?_
        rintro _ _ ⟨_, ⟨rfl, rfl⟩, rfl⟩
        refine dq 25 rfl (q_pickT rfl rfl) <| dq 26 rfl (q_move rfl) ?_
        refine D.split 69 rfl (fun g69 => ?_) (fun g69 => ?_)
        · have hl4 := hl3.trans (DM.also_yes g69)
          refine dq 27 rfl (q_move rfl) <| dq 28 rfl (q_nilCheck rfl) <| dq 29 rfl (q_field fo_178_0 rfl) <| dq 30 rfl (q_load1D ck_25 rfl) <| dq1 31 rfl (OpL.callD rfl (h := dk_Sync p _ hw4)) (.inr (by rintro _ _ ⟨_, ⟨rfl, rfl⟩, rfl⟩ w h; exact h.subD)) ?_
          rintro _ _ ⟨_, ⟨rfl, rfl⟩, rfl⟩
          refine dq 32 rfl (q_pickT rfl rfl) <| dq 33 rfl (q_assign rfl) <| D.done tK ?_
          refine kr1 Tryz.func149 Tryz.results149 rfl (fun w hs => ?_)
          rw [hl4]
          exact ⟨_, [A, pv l 178 (lgC p g q g.recs.length c), DkX p (d2.sync.2.write g.next (lgHead g.epoch ((g.recs.length : Int) + 1) b.length)).2.sync.2], rfl, ⟨rfl, rfl⟩, hs.fitD⟩
        · have hl4 := hl3.trans (DM.also_no g69)
          refine D.skip 27 rfl tK tK (fun _ h => h.subD) <| D.skip 28 rfl tK tK (fun _ h => h.subD) <| D.skip 29 rfl tK tK (fun _ h => h.subD) <| D.skip 30 rfl tK tK (fun _ h => h.subD) <| D.skip 31 rfl tK tK (fun _ h => h.subD) <| dq 32 rfl (q_pickF rfl rfl) <| dq 33 rfl (q_assign rfl) <| D.done tK ?_
          refine kr1 Tryz.func149 Tryz.results149 rfl (fun w hs => ?_)
          rw [hl4]
          exact ⟨_, [A, pv l 178 (lgC p g q g.recs.length c), DkX p (d2.sync.2.write g.next (lgHead g.epoch ((g.recs.length : Int) + 1) b.length)).2], rfl, ⟨rfl, rfl⟩, hs.fitD⟩
      · have hl3 := hl2.trans (DM.also_no g48)
        refine D.skip 6 rfl tK tK (fun _ h => h.subD) <| D.skip 7 rfl tK tK (fun _ h => h.subD) <| D.skip 8 rfl tK tK (fun _ h => h.subD) <| D.skip 9 rfl tK tK (fun _ h => h.subD) <| D.skip 10 rfl tK tK (fun _ h => h.subD) <| D.skip 11 rfl tK tK (fun _ h => h.subD) <| D.skip 12 rfl tK tK (fun _ h => h.subD) <| D.skip 13 rfl tK tK (fun _ h => h.subD) <| D.skip 14 rfl tK tK (fun _ h => h.subD) <| D.skip 15 rfl tK tK (fun _ h => h.subD) ?_
        refine D.skip 16 rfl tK tK (fun _ h => h.subD) <| D.skip 17 rfl tK tK (fun _ h => h.subD) <| D.skip 18 rfl tK tK (fun _ h => h.subD) <| D.skip 19 rfl tK tK (fun _ h => h.subD) <| D.skip 20 rfl tK tK (fun _ h => h.subD) <| D.skip 21 rfl tK tK (fun _ h => h.subD) <| D.skip 22 rfl tK tK (fun _ h => h.subD) <| D.skip 23 rfl tK tK (fun _ h => h.subD) <| D.skip 24 rfl tK tK (fun _ h => h.subD) <| dq 25 rfl (q_pickF rfl rfl) ?_
        refine dq 26 rfl (q_move rfl) <| D.skip 27 rfl tK tK (fun _ h => h.subD) <| D.skip 28 rfl tK tK (fun _ h => h.subD) <| D.skip 29 rfl tK tK (fun _ h => h.subD) <| D.skip 30 rfl tK tK (fun _ h => h.subD) <| D.skip 31 rfl tK tK (fun _ h => h.subD) <| dq 32 rfl (q_pickF rfl rfl) <| dq 33 rfl (q_assign rfl) <| D.done tK ?_
        refine kr1 Tryz.func149 Tryz.results149 rfl (fun w hs => ?_)
        rw [hl3]
        exact ⟨_, [A, pv l 178 (lgC p g q g.recs.length c), DkX p d2.sync.2], rfl, ⟨rfl, rfl⟩, hs.fitD⟩
set_option maxHeartbeats 1600000 in
theorem lg_Append (A : HP) (l p : Nat) (d : Dk) (g : Lg) (z : LgI g) (qb : Option Addr) (cb : Nat) (b : List UInt8) (hA : IsRow A Kd.u8 qb b) (h : g.wf) (hw : d.wf) (hc : d.cnt ≤ 80000000) (hb : b.length ≤ 1000000) : Fn Tryz.prog 98 [.pointer (some ⟨l, 0, none⟩), .slice qb b.length cb].toArray (A :: LgF l p g z ++ [DkX p d])
    (fun r post => ∃ z' : LgI (g.append b d).2.1, r = .int .i64 (g.append b d).1 ∧ post = A :: LgF l p (g.append b d).2.1 z' ++ [DkX p (g.append b d).2.2]) := by
  have hnx := h.nx
  have hpl := h.pl
  have hzl := z.len
  have hgl := h.len
  have hnl := need_le (n := (b.length : Int)) (Int.natCast_nonneg _)
  have hnn := need_nn (b.length : Int)
  refine Fn.enter (N := 56) Tryz.func98 rfl Tryz.ntmps98 tK rfl (fun ρ L => ?_)
  refine K.seq <| K.region <| KO.q rfl (q_assign rfl) <| KO.done <| K.seq <| K.block <| K.seq <| K.region <| KO.q rfl (q_move rfl) <| KO.q rfl (q_pnil Tryz.underlying95 rfl rfl) <| KO.q rfl (q_move rfl) <| KO.q rfl (q_move rfl) ?_
  refine KO.q rfl (q_nilCheck rfl) <| KO.q rfl (q_field fo_178_0 rfl) <| KO.q rfl (q_load1D ck_25 rfl) <| KO.q rfl (q_pnil Tryz.underlying25 rfl rfl) <| KO.q rfl (q_pickF rfl rfl) <| KO.q rfl (q_move rfl) <| KO.q rfl (q_move rfl) <| KO.q rfl (q_nilCheck rfl) <| KO.q rfl (q_field fo_178_6 rfl) <| KO.q rfl (q_load1D ck_4 rfl) ?_
  refine KO.q rfl (q_pickF rfl rfl) <| KO.q rfl (q_assign rfl) <| KO.done ?_
  first | refine K.dcond (s := 5) rfl (fun g5 => ?_) (fun g5 => ?_) | refine K.bcond (s := 5) rfl (fun g5 => ?_) (fun g5 => ?_)
  · have hr : g.append b d = (12, g, d) := by unfold Lg.append; rw [if_pos g5]
    refine K.seq <| K.region <| KO.q rfl (q_assign rfl) <| KO.done ?_
    refine kr1 Tryz.func98 Tryz.results98 rfl (fun w hs => ?_)
    rw [hr]
    exact ⟨_, A :: LgF l p g z ++ [DkX p d], rfl, ⟨z, rfl, rfl⟩, hs.fitD⟩
  · refine K.seq <| K.region <| KO.q rfl (q_move rfl) <| KO.q rfl (q_move rfl) <| KO.q rfl (q_len Tryz.underlying23 rfl) <| KO.loud rfl (OpL.callD rfl (h := lg_fits l p g z.q z.R.length z.c b.length h tO)) ?_
    rintro _ _ ⟨_, ⟨rfl, rfl⟩, rfl⟩
    refine KO.q rfl (q_not rfl) <| KO.q rfl (q_assign rfl) <| KO.done ?_
    refine K.bcond (s := 21) rfl (fun g21 => ?_) (fun g21 => ?_)
    · have hr : g.append b d = (6, g, d) := by unfold Lg.append; rw [if_neg (by simpa using g5), if_pos (by simpa using g21)]
      refine K.seq <| K.region <| KO.q rfl (q_assign rfl) <| KO.done ?_
      refine kr1 Tryz.func98 Tryz.results98 rfl (fun w hs => ?_)
      rw [hr]
      exact ⟨_, A :: LgF l p g z ++ [DkX p d], rfl, ⟨z, rfl, rfl⟩, hs.fitD⟩
    · have hfi : g.fits b.length = true := by simpa using g21
      have hfi2 := Lg.fits_iff.1 hfi
      have hr : g.append b d = if (g.lay b d).1 = true then (0, { g with recs := g.recs ++ [b], next := g.next + 1 + need b.length }, (g.lay b d).2) else (12, { g with failed := true }, (g.lay b d).2) := by
        unfold Lg.append; rw [if_neg (by simpa using g5), if_neg (by rw [hfi]; decide)]
      refine K.skip <| K.inBlock <| K.seq <| K.seq <| K.region <| KO.q rfl (q_move rfl) <| KO.q rfl (q_move rfl) <| KO.loud rfl (OpL.callD rfl (h := lg_put A l p d g z.q z.R.length z.c qb cb b hA h hzl hw hc hb)) ?_
      rintro _ _ ⟨_, ⟨rfl, rfl⟩, rfl⟩
      refine KO.q rfl (q_not rfl) <| KO.done ?_
      refine K.bcond (s := 30) rfl (fun g30 => ?_) (fun g30 => ?_)
      · have hr2 : g.append b d = (12, { g with failed := true }, (g.lay b d).2) := by rw [hr, if_neg (by simpa using g30)]
        refine K.seq <| K.region <| KO.q rfl (q_move rfl) <| KO.q rfl (q_nilCheck rfl) <| KO.q rfl (q_field fo_178_6 rfl) <| KO.loudN rfl (l_store1 ck_4 rfl rfl rfl tP tA) ?_
        rintro _ _ ⟨rfl, rfl⟩
        refine KO.done <| K.seq <| K.region <| KO.q rfl (q_assign rfl) <| KO.done ?_
        refine kr1 Tryz.func98 Tryz.results98 rfl (fun w hs => ?_)
        rw [hr2]
        exact ⟨_, A :: LgF l p { g with failed := true } ⟨z.q, z.c, z.R, z.hR⟩ ++ [DkX p (g.lay b d).2], rfl, ⟨⟨z.q, z.c, z.R, z.hR⟩, rfl, rfl⟩, hs.fitD⟩
      · have hr2 : g.append b d = (0, { g with recs := g.recs ++ [b], next := g.next + 1 + need b.length }, (g.lay b d).2) := by rw [hr, if_pos (by simpa using g30)]
        refine K.skip <| K.seq <| K.drawS [pv l 178 (lgC p g z.q z.R.length z.c)] (fun _ h => h.subD) mixed <| dq 0 rfl (q_move rfl) <| dq 1 rfl (q_move rfl) <| dq 2 rfl (q_nilCheck rfl) <| dq 3 rfl (q_field fo_178_5 rfl) <| dq 4 rfl (q_load1D ck_80 rfl) <| dq 5 rfl (q_move rfl) <| dq1 6 rfl (OpL.callD rfl (h := clone_u8 A qb cb b hA tO)) (.inr (by rintro _ _ ⟨_, ⟨q', c', rfl, rfl, hqc⟩, rfl⟩ w h; exact h.subD)) ?_
        rintro _ _ ⟨_, ⟨q', c', rfl, rfl, hqc⟩, rfl⟩
        refine dq1 7 rfl (l_slice sz_80_1 rfl tF) (.inr (by rintro _ _ ⟨b41, rfl, rfl⟩ w h; exact h.subD)) ?_
        rintro _ _ ⟨b41, rfl, rfl⟩
        refine D.st (fun w h => pv_sl1 (l := b) rfl h) <| dq1 8 rfl (l_append Kd.sb (ys := [⟨q', c', b⟩]) se_80 Tryz.underlying80 ⟨_, ze_sb, rfl⟩ tD rfl rfl tP isP tM rfl rfl (by show (2 * (z.R.length + 1) + 768) * _ ≤ _; omega)) (.inr (by rintro _ _ ⟨q2, c2, rfl, rfl⟩ w h; exact h.subD)) ?_
        rintro _ _ ⟨q2, c2, rfl, rfl⟩
        refine dq1 9 rfl (OpQ.loud (q_nilCheck rfl)) (.inl tK) ?_
        rintro _ _ ⟨rfl, rfl⟩
        refine dq1 10 rfl (OpQ.loud (q_field fo_178_5 rfl)) (.inl tK) ?_
        rintro _ _ ⟨rfl, rfl⟩
        refine dq1N 11 rfl (l_store1 ck_80 rfl rfl rfl tP tA) (.inl tK) ?_
        rintro _ _ ⟨rfl, rfl⟩
        refine D.done tK <| K.seq <| K.drawS [pv l 178 (lgC p g q2 (z.R ++ [(⟨q', c', b⟩ : Sl UInt8)]).length c2)] (fun _ h => h.subD) mixed <| dq 0 rfl (q_move rfl) <| dq 1 rfl (q_nilCheck rfl) <| dq 2 rfl (q_field fo_178_3 rfl) <| dq 3 rfl (q_load1D ck_3 rfl) <| dq 4 rfl (q_move rfl) <| dq 5 rfl (q_len Tryz.underlying23 rfl) <| dq1 6 rfl (OpL.callD rfl (h := sp_Need _ tO)) (.inr (by rintro _ _ ⟨_, ⟨rfl, rfl⟩, rfl⟩ w h; exact h.subD)) ?_
        rintro _ _ ⟨_, ⟨rfl, rfl⟩, rfl⟩
        refine dq 7 rfl (q_add rfl rfl tN tN) <| dq 8 rfl (q_add rfl rfl tN tN) <| dq1 9 rfl (OpQ.loud (q_nilCheck rfl)) (.inl tK) ?_
        rintro _ _ ⟨rfl, rfl⟩
        refine dq1 10 rfl (OpQ.loud (q_field fo_178_3 rfl)) (.inl tK) ?_
        rintro _ _ ⟨rfl, rfl⟩
        refine dq1N 11 rfl (l_store1 ck_3 rfl rfl rfl tP tA) (.inl tK) ?_
        rintro _ _ ⟨rfl, rfl⟩
        refine D.done tK ?_
        rw [show g.next + (1 + need b.length) = g.next + 1 + need b.length by omega]
        refine K.st (fun w h => rowO_freeze (k := Kd.u8) (e := 5) (p := q') (cap := c') (xs := b) (h.pick tP)) <| K.st (fun w h => nestSl_add (l' := z.R ++ [⟨q', c', b⟩]) ⟨q', c', b⟩ (l := z.R) tM tM (fun x hx => (List.mem_append.1 hx).imp id List.mem_singleton.1) h) <| K.seq <| K.region <| KO.q rfl (q_assign rfl) <| KO.done ?_
        refine kr1 Tryz.func98 Tryz.results98 rfl (fun w hs => ?_)
        rw [hr2]
        exact ⟨_, A :: LgF l p { g with recs := g.recs ++ [b], next := g.next + 1 + need b.length } ⟨q2, c2, z.R ++ [⟨q', c', b⟩], by rw [List.map_append, z.hR]; rfl⟩ ++ [DkX p (g.lay b d).2], rfl, ⟨_, rfl, rfl⟩, hs.fitD⟩
end Go.Proofs.YtkbhldicnamcdaaGreat.L
