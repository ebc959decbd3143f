/- What the types' tables of this seat's program say: small facts, by the kernel. -/
import Derived.Test.YtlellgnklohclaaProg
import Derived.Test.YtlellgnklohclaaLB
namespace Go.Proofs.Ytlellgnklohclaa.L
open Go Go.Proofs
theorem fo_24_0 : fieldOff Try.prog 24 0 = some 0 := by kernel_rfl
theorem fo_24_1 : fieldOff Try.prog 24 1 = some 1 := by kernel_rfl
theorem fo_24_2 : fieldOff Try.prog 24 2 = some 2 := by kernel_rfl
theorem fo_24_3 : fieldOff Try.prog 24 3 = some 3 := by kernel_rfl
theorem fo_24_4 : fieldOff Try.prog 24 4 = some 4 := by kernel_rfl
theorem fo_24_5 : fieldOff Try.prog 24 5 = some 5 := by kernel_rfl
theorem fo_35_0 : fieldOff Try.prog 35 0 = some 0 := by kernel_rfl
theorem fo_48_0 : fieldOff Try.prog 48 0 = some 0 := by kernel_rfl
theorem fo_48_1 : fieldOff Try.prog 48 1 = some 1 := by kernel_rfl
theorem fo_48_2 : fieldOff Try.prog 48 2 = some 2 := by kernel_rfl
theorem fo_48_3 : fieldOff Try.prog 48 3 = some 3 := by kernel_rfl
theorem fo_52_0 : fieldOff Try.prog 52 0 = some 0 := by kernel_rfl
theorem fo_63_0 : fieldOff Try.prog 63 0 = some 0 := by kernel_rfl
theorem fo_63_1 : fieldOff Try.prog 63 1 = some 1 := by kernel_rfl
theorem fo_63_2 : fieldOff Try.prog 63 2 = some 2 := by kernel_rfl
theorem fo_63_3 : fieldOff Try.prog 63 3 = some 3 := by kernel_rfl
theorem fo_63_4 : fieldOff Try.prog 63 4 = some 4 := by kernel_rfl
theorem fo_63_5 : fieldOff Try.prog 63 5 = some 5 := by kernel_rfl
theorem fo_63_6 : fieldOff Try.prog 63 6 = some 6 := by kernel_rfl
theorem fo_63_7 : fieldOff Try.prog 63 7 = some 7 := by kernel_rfl
theorem fo_76_0 : fieldOff Try.prog 76 0 = some 0 := by kernel_rfl
theorem fo_76_1 : fieldOff Try.prog 76 1 = some 1 := by kernel_rfl
theorem fo_90_0 : fieldOff Try.prog 90 0 = some 0 := by kernel_rfl
theorem fo_90_1 : fieldOff Try.prog 90 1 = some 1 := by kernel_rfl
theorem fo_95_0 : fieldOff Try.prog 95 0 = some 0 := by kernel_rfl
theorem fo_95_1 : fieldOff Try.prog 95 1 = some 1 := by kernel_rfl
theorem fo_103_0 : fieldOff Try.prog 103 0 = some 0 := by kernel_rfl
theorem fo_103_1 : fieldOff Try.prog 103 1 = some 1 := by kernel_rfl
theorem fo_108_0 : fieldOff Try.prog 108 0 = some 0 := by kernel_rfl
theorem fo_108_1 : fieldOff Try.prog 108 1 = some 1 := by kernel_rfl
theorem fo_108_2 : fieldOff Try.prog 108 2 = some 2 := by kernel_rfl
theorem fo_108_3 : fieldOff Try.prog 108 3 = some 3 := by kernel_rfl
theorem fo_108_4 : fieldOff Try.prog 108 4 = some 4 := by kernel_rfl
theorem fo_108_5 : fieldOff Try.prog 108 5 = some 5 := by kernel_rfl
theorem fo_117_0 : fieldOff Try.prog 117 0 = some 0 := by kernel_rfl
theorem fo_117_1 : fieldOff Try.prog 117 1 = some 1 := by kernel_rfl
theorem ck_3 : cellK Try.prog 3 = some (false, 1) := by kernel_rfl
theorem ck_4 : cellK Try.prog 4 = some (false, 1) := by kernel_rfl
theorem ck_5 : cellK Try.prog 5 = some (false, 1) := by kernel_rfl
theorem ck_9 : cellK Try.prog 9 = some (false, 1) := by kernel_rfl
theorem ck_24 : cellK Try.prog 24 = some (true, 6) := by kernel_rfl
theorem ck_25 : cellK Try.prog 25 = some (false, 1) := by kernel_rfl
theorem ck_26 : cellK Try.prog 26 = some (false, 1) := by kernel_rfl
theorem ck_27 : cellK Try.prog 27 = some (false, 1) := by kernel_rfl
theorem ck_38 : cellK Try.prog 38 = some (false, 1) := by kernel_rfl
theorem ck_63 : cellK Try.prog 63 = some (true, 13) := by kernel_rfl
theorem ck_74 : cellK Try.prog 74 = some (false, 1) := by kernel_rfl
theorem ck_76 : cellK Try.prog 76 = some (true, 2) := by kernel_rfl
theorem ck_103 : cellK Try.prog 103 = some (true, 2) := by kernel_rfl
theorem ck_106 : cellK Try.prog 106 = some (false, 1) := by kernel_rfl
theorem ck_108 : cellK Try.prog 108 = some (true, 6) := by kernel_rfl
theorem ck_115 : cellK Try.prog 115 = some (false, 1) := by kernel_rfl
theorem se_25 : slElem Try.prog 25 = some (5, 1, 1) := by kernel_rfl
theorem ze_5 : zeroOf Try.prog 5 = some [(.int .u8 0)] := by kernel_rfl
theorem se_26 : slElem Try.prog 26 = some (24, 6, 64) := by kernel_rfl
theorem ze_24 : zeroOf Try.prog 24 = some [(.int .i64 0), (.int .i64 0), (.int .i64 0), (.bool false), (.string ⟨#[]⟩), (.string ⟨#[]⟩)] := by kernel_rfl
theorem se_44 : slElem Try.prog 44 = some (48, 4, 40) := by kernel_rfl
theorem ze_48 : zeroOf Try.prog 48 = some [(.int .i64 0), (.int .i64 0), (.string ⟨#[]⟩), (.bool false)] := by kernel_rfl
theorem se_59 : slElem Try.prog 59 = some (63, 13, 144) := by kernel_rfl
theorem ze_63 : zeroOf Try.prog 63 = some [(.int .i64 0), (.string ⟨#[]⟩), (.string ⟨#[]⟩), (.string ⟨#[]⟩), (.int .i64 0), (.int .i64 0), (.bool false), (.int .i64 0), (.int .i64 0), (.int .i64 0), (.bool false), (.string ⟨#[]⟩), (.string ⟨#[]⟩)] := by kernel_rfl
theorem se_74 : slElem Try.prog 74 = some (108, 6, 104) := by kernel_rfl
theorem ze_108 : zeroOf Try.prog 108 = some [(.string ⟨#[]⟩), (.int .i64 0), (.int .i64 0), (.slice none 0 0), (.slice none 0 0), (.slice none 0 0)] := by kernel_rfl
theorem se_106 : slElem Try.prog 106 = some (103, 2, 32) := by kernel_rfl
theorem ze_103 : zeroOf Try.prog 103 = some [(.string ⟨#[]⟩), (.string ⟨#[]⟩)] := by kernel_rfl
theorem se_133 : slElem Try.prog 133 = some (26, 1, 24) := by kernel_rfl
theorem ze_26 : zeroOf Try.prog 26 = some [(.slice none 0 0)] := by kernel_rfl
theorem se_137 : slElem Try.prog 137 = some (3, 1, 8) := by kernel_rfl
theorem ze_3 : zeroOf Try.prog 3 = some [(.int .i64 0)] := by kernel_rfl
theorem zo_24 : zeroOf Try.prog 24 = some [(.int .i64 0), (.int .i64 0), (.int .i64 0), (.bool false), (.string ⟨#[]⟩), (.string ⟨#[]⟩)] := by kernel_rfl
theorem zo_26 : zeroOf Try.prog 26 = some [(.slice none 0 0)] := by kernel_rfl
theorem zo_27 : zeroOf Try.prog 27 = some [.nilFunc] := by kernel_rfl
theorem zo_63 : zeroOf Try.prog 63 = some [(.int .i64 0), (.string ⟨#[]⟩), (.string ⟨#[]⟩), (.string ⟨#[]⟩), (.int .i64 0), (.int .i64 0), (.bool false), (.int .i64 0), (.int .i64 0), (.int .i64 0), (.bool false), (.string ⟨#[]⟩), (.string ⟨#[]⟩)] := by kernel_rfl
theorem zo_76 : zeroOf Try.prog 76 = some [(.int .i64 0), (.slice none 0 0)] := by kernel_rfl
theorem zo_103 : zeroOf Try.prog 103 = some [(.string ⟨#[]⟩), (.string ⟨#[]⟩)] := by kernel_rfl
theorem zo_108 : zeroOf Try.prog 108 = some [(.string ⟨#[]⟩), (.int .i64 0), (.int .i64 0), (.slice none 0 0), (.slice none 0 0), (.slice none 0 0)] := by kernel_rfl
theorem zo_115 : zeroOf Try.prog 115 = some [(.pointer none)] := by kernel_rfl
theorem st_24 : structTab Try.prog 24 = some ([(0, 1), (1, 1), (2, 1), (3, 1), (4, 1), (5, 1)], [(.int .i64 0), (.int .i64 0), (.int .i64 0), (.bool false), (.string ⟨#[]⟩), (.string ⟨#[]⟩)]) := by kernel_rfl
theorem st_35 : structTab Try.prog 35 = some ([(0, 1)], [(.slice none 0 0)]) := by kernel_rfl
theorem st_52 : structTab Try.prog 52 = some ([(0, 1)], [(.slice none 0 0)]) := by kernel_rfl
theorem st_63 : structTab Try.prog 63 = some ([(0, 1), (1, 1), (2, 1), (3, 1), (4, 1), (5, 1), (6, 1), (7, 6)], [(.int .i64 0), (.string ⟨#[]⟩), (.string ⟨#[]⟩), (.string ⟨#[]⟩), (.int .i64 0), (.int .i64 0), (.bool false), (.int .i64 0), (.int .i64 0), (.int .i64 0), (.bool false), (.string ⟨#[]⟩), (.string ⟨#[]⟩)]) := by kernel_rfl
theorem st_76 : structTab Try.prog 76 = some ([(0, 1), (1, 1)], [(.int .i64 0), (.slice none 0 0)]) := by kernel_rfl
theorem st_90 : structTab Try.prog 90 = some ([(0, 1), (1, 1)], [(.slice none 0 0), (.bool false)]) := by kernel_rfl
theorem st_95 : structTab Try.prog 95 = some ([(0, 1), (1, 1)], [(.slice none 0 0), (.bool false)]) := by kernel_rfl
theorem st_103 : structTab Try.prog 103 = some ([(0, 1), (1, 1)], [(.string ⟨#[]⟩), (.string ⟨#[]⟩)]) := by kernel_rfl
theorem st_108 : structTab Try.prog 108 = some ([(0, 1), (1, 1), (2, 1), (3, 1), (4, 1), (5, 1)], [(.string ⟨#[]⟩), (.int .i64 0), (.int .i64 0), (.slice none 0 0), (.slice none 0 0), (.slice none 0 0)]) := by kernel_rfl
theorem st_117 : structTab Try.prog 117 = some ([(0, 1), (1, 1)], [(.pointer none), (.bool false)]) := by kernel_rfl
theorem sz_25_1 : slZeros Try.prog 25 1 = some (5, 1, [(.int .u8 0)]) := by kernel_rfl
theorem sz_25_2 : slZeros Try.prog 25 2 = some (5, 1, [(.int .u8 0), (.int .u8 0)]) := by kernel_rfl
theorem sz_26_1 : slZeros Try.prog 26 1 = some (24, 6, [(.int .i64 0), (.int .i64 0), (.int .i64 0), (.bool false), (.string ⟨#[]⟩), (.string ⟨#[]⟩)]) := by kernel_rfl
theorem sz_26_7 : slZeros Try.prog 26 7 = some (24, 6, [(.int .i64 0), (.int .i64 0), (.int .i64 0), (.bool false), (.string ⟨#[]⟩), (.string ⟨#[]⟩), (.int .i64 0), (.int .i64 0), (.int .i64 0), (.bool false), (.string ⟨#[]⟩), (.string ⟨#[]⟩), (.int .i64 0), (.int .i64 0), (.int .i64 0), (.bool false), (.string ⟨#[]⟩), (.string ⟨#[]⟩), (.int .i64 0), (.int .i64 0), (.int .i64 0), (.bool false), (.string ⟨#[]⟩), (.string ⟨#[]⟩), (.int .i64 0), (.int .i64 0), (.int .i64 0), (.bool false), (.string ⟨#[]⟩), (.string ⟨#[]⟩), (.int .i64 0), (.int .i64 0), (.int .i64 0), (.bool false), (.string ⟨#[]⟩), (.string ⟨#[]⟩), (.int .i64 0), (.int .i64 0), (.int .i64 0), (.bool false), (.string ⟨#[]⟩), (.string ⟨#[]⟩)]) := by kernel_rfl
theorem sz_59_1 : slZeros Try.prog 59 1 = some (63, 13, [(.int .i64 0), (.string ⟨#[]⟩), (.string ⟨#[]⟩), (.string ⟨#[]⟩), (.int .i64 0), (.int .i64 0), (.bool false), (.int .i64 0), (.int .i64 0), (.int .i64 0), (.bool false), (.string ⟨#[]⟩), (.string ⟨#[]⟩)]) := by kernel_rfl
theorem sz_74_1 : slZeros Try.prog 74 1 = some (108, 6, [(.string ⟨#[]⟩), (.int .i64 0), (.int .i64 0), (.slice none 0 0), (.slice none 0 0), (.slice none 0 0)]) := by kernel_rfl
theorem sz_106_1 : slZeros Try.prog 106 1 = some (103, 2, [(.string ⟨#[]⟩), (.string ⟨#[]⟩)]) := by kernel_rfl
theorem sz_133_2 : slZeros Try.prog 133 2 = some (26, 1, [(.slice none 0 0), (.slice none 0 0)]) := by kernel_rfl
theorem sz_137_2 : slZeros Try.prog 137 2 = some (3, 1, [(.int .i64 0), (.int .i64 0)]) := by kernel_rfl
theorem mixed : Try.prog.follows .mixedOrders = true := by kernel_rfl
end Go.Proofs.Ytlellgnklohclaa.L
