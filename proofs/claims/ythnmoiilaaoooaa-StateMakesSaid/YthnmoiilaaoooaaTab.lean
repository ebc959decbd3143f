/- What the types' tables of this seat's program say: small facts, by the kernel. -/
import Derived.Test.YthnmoiilaaoooaaProg
import Derived.Test.YthnmoiilaaoooaaLB
namespace Go.Proofs.Ythnmoiilaaoooaa.L
open Go Go.Proofs
theorem fo_24_0 : fieldOff Try.prog 24 0 = some 0 := by kernel_rfl
theorem fo_24_1 : fieldOff Try.prog 24 1 = some 1 := by kernel_rfl
theorem fo_24_2 : fieldOff Try.prog 24 2 = some 2 := by kernel_rfl
theorem fo_24_3 : fieldOff Try.prog 24 3 = some 3 := by kernel_rfl
theorem fo_24_4 : fieldOff Try.prog 24 4 = some 4 := by kernel_rfl
theorem fo_24_5 : fieldOff Try.prog 24 5 = some 5 := by kernel_rfl
theorem fo_28_0 : fieldOff Try.prog 28 0 = some 0 := by kernel_rfl
theorem fo_28_1 : fieldOff Try.prog 28 1 = some 1 := by kernel_rfl
theorem fo_28_2 : fieldOff Try.prog 28 2 = some 2 := by kernel_rfl
theorem fo_28_3 : fieldOff Try.prog 28 3 = some 3 := by kernel_rfl
theorem fo_28_4 : fieldOff Try.prog 28 4 = some 4 := by kernel_rfl
theorem fo_28_5 : fieldOff Try.prog 28 5 = some 5 := by kernel_rfl
theorem fo_30_0 : fieldOff Try.prog 30 0 = some 0 := by kernel_rfl
theorem fo_30_1 : fieldOff Try.prog 30 1 = some 1 := by kernel_rfl
theorem fo_33_0 : fieldOff Try.prog 33 0 = some 0 := by kernel_rfl
theorem fo_33_1 : fieldOff Try.prog 33 1 = some 1 := by kernel_rfl
theorem fo_35_0 : fieldOff Try.prog 35 0 = some 0 := by kernel_rfl
theorem fo_35_1 : fieldOff Try.prog 35 1 = some 1 := by kernel_rfl
theorem fo_35_2 : fieldOff Try.prog 35 2 = some 2 := by kernel_rfl
theorem fo_35_3 : fieldOff Try.prog 35 3 = some 3 := by kernel_rfl
theorem fo_35_4 : fieldOff Try.prog 35 4 = some 4 := by kernel_rfl
theorem fo_35_5 : fieldOff Try.prog 35 5 = some 5 := by kernel_rfl
theorem fo_35_6 : fieldOff Try.prog 35 6 = some 6 := by kernel_rfl
theorem fo_35_7 : fieldOff Try.prog 35 7 = some 7 := by kernel_rfl
theorem fo_52_0 : fieldOff Try.prog 52 0 = some 0 := by kernel_rfl
theorem fo_52_1 : fieldOff Try.prog 52 1 = some 1 := by kernel_rfl
theorem fo_52_2 : fieldOff Try.prog 52 2 = some 2 := by kernel_rfl
theorem fo_52_3 : fieldOff Try.prog 52 3 = some 3 := by kernel_rfl
theorem fo_52_4 : fieldOff Try.prog 52 4 = some 4 := by kernel_rfl
theorem fo_52_5 : fieldOff Try.prog 52 5 = some 5 := by kernel_rfl
theorem fo_54_0 : fieldOff Try.prog 54 0 = some 0 := by kernel_rfl
theorem fo_54_1 : fieldOff Try.prog 54 1 = some 1 := by kernel_rfl
theorem fo_54_2 : fieldOff Try.prog 54 2 = some 2 := by kernel_rfl
theorem fo_54_3 : fieldOff Try.prog 54 3 = some 4 := by kernel_rfl
theorem fo_54_4 : fieldOff Try.prog 54 4 = some 10 := by kernel_rfl
theorem fo_56_0 : fieldOff Try.prog 56 0 = some 0 := by kernel_rfl
theorem fo_56_1 : fieldOff Try.prog 56 1 = some 6 := by kernel_rfl
theorem fo_90_0 : fieldOff Try.prog 90 0 = some 0 := by kernel_rfl
theorem fo_90_1 : fieldOff Try.prog 90 1 = some 1 := by kernel_rfl
theorem ck_3 : cellK Try.prog 3 = some (false, 1) := by kernel_rfl
theorem ck_4 : cellK Try.prog 4 = some (false, 1) := by kernel_rfl
theorem ck_9 : cellK Try.prog 9 = some (false, 1) := by kernel_rfl
theorem ck_24 : cellK Try.prog 24 = some (true, 6) := by kernel_rfl
theorem ck_25 : cellK Try.prog 25 = some (false, 1) := by kernel_rfl
theorem ck_26 : cellK Try.prog 26 = some (false, 1) := by kernel_rfl
theorem ck_28 : cellK Try.prog 28 = some (true, 6) := by kernel_rfl
theorem ck_30 : cellK Try.prog 30 = some (true, 2) := by kernel_rfl
theorem ck_31 : cellK Try.prog 31 = some (false, 1) := by kernel_rfl
theorem ck_33 : cellK Try.prog 33 = some (true, 2) := by kernel_rfl
theorem ck_35 : cellK Try.prog 35 = some (true, 13) := by kernel_rfl
theorem ck_38 : cellK Try.prog 38 = some (false, 1) := by kernel_rfl
theorem ck_50 : cellK Try.prog 50 = some (false, 1) := by kernel_rfl
theorem ck_52 : cellK Try.prog 52 = some (true, 6) := by kernel_rfl
theorem ck_56 : cellK Try.prog 56 = some (true, 17) := by kernel_rfl
theorem ck_87 : cellK Try.prog 87 = some (false, 1) := by kernel_rfl
theorem ck_88 : cellK Try.prog 88 = some (false, 1) := by kernel_rfl
theorem ck_121 : cellK Try.prog 121 = some (true, 2) := by kernel_rfl
theorem se_25 : slElem Try.prog 25 = some (24, 6, 64) := by kernel_rfl
theorem ze_24 : zeroOf Try.prog 24 = some [(.int .i64 0), (.int .i64 0), (.int .i64 0), (.bool false), (.string ⟨#[]⟩), (.string ⟨#[]⟩)] := by kernel_rfl
theorem se_26 : slElem Try.prog 26 = some (30, 2, 32) := by kernel_rfl
theorem ze_30 : zeroOf Try.prog 30 = some [(.string ⟨#[]⟩), (.string ⟨#[]⟩)] := by kernel_rfl
theorem se_31 : slElem Try.prog 31 = some (28, 6, 104) := by kernel_rfl
theorem ze_28 : zeroOf Try.prog 28 = some [(.string ⟨#[]⟩), (.int .i64 0), (.int .i64 0), (.slice none 0 0), (.slice none 0 0), (.slice none 0 0)] := by kernel_rfl
theorem se_36 : slElem Try.prog 36 = some (35, 13, 144) := by kernel_rfl
theorem ze_35 : zeroOf Try.prog 35 = some [(.int .i64 0), (.string ⟨#[]⟩), (.string ⟨#[]⟩), (.string ⟨#[]⟩), (.int .i64 0), (.int .i64 0), (.bool false), (.int .i64 0), (.int .i64 0), (.int .i64 0), (.bool false), (.string ⟨#[]⟩), (.string ⟨#[]⟩)] := by kernel_rfl
theorem se_37 : slElem Try.prog 37 = some (3, 1, 8) := by kernel_rfl
theorem ze_3 : zeroOf Try.prog 3 = some [(.int .i64 0)] := by kernel_rfl
theorem se_50 : slElem Try.prog 50 = some (56, 17, 208) := by kernel_rfl
theorem ze_56 : zeroOf Try.prog 56 = some [(.int .i64 0), (.string ⟨#[]⟩), (.string ⟨#[]⟩), (.string ⟨#[]⟩), (.int .i64 0), (.int .i64 0), (.int .i64 0), (.int .i64 0), (.string ⟨#[]⟩), (.string ⟨#[]⟩), (.int .i64 0), (.int .i64 0), (.int .i64 0), (.bool false), (.string ⟨#[]⟩), (.string ⟨#[]⟩), (.slice none 0 0)] := by kernel_rfl
theorem se_73 : slElem Try.prog 73 = some (50, 1, 24) := by kernel_rfl
theorem ze_50 : zeroOf Try.prog 50 = some [(.slice none 0 0)] := by kernel_rfl
theorem se_95 : slElem Try.prog 95 = some (25, 1, 24) := by kernel_rfl
theorem ze_25 : zeroOf Try.prog 25 = some [(.slice none 0 0)] := by kernel_rfl
theorem zo_24 : zeroOf Try.prog 24 = some [(.int .i64 0), (.int .i64 0), (.int .i64 0), (.bool false), (.string ⟨#[]⟩), (.string ⟨#[]⟩)] := by kernel_rfl
theorem zo_28 : zeroOf Try.prog 28 = some [(.string ⟨#[]⟩), (.int .i64 0), (.int .i64 0), (.slice none 0 0), (.slice none 0 0), (.slice none 0 0)] := by kernel_rfl
theorem zo_30 : zeroOf Try.prog 30 = some [(.string ⟨#[]⟩), (.string ⟨#[]⟩)] := by kernel_rfl
theorem zo_33 : zeroOf Try.prog 33 = some [(.int .i64 0), (.slice none 0 0)] := by kernel_rfl
theorem zo_35 : zeroOf Try.prog 35 = some [(.int .i64 0), (.string ⟨#[]⟩), (.string ⟨#[]⟩), (.string ⟨#[]⟩), (.int .i64 0), (.int .i64 0), (.bool false), (.int .i64 0), (.int .i64 0), (.int .i64 0), (.bool false), (.string ⟨#[]⟩), (.string ⟨#[]⟩)] := by kernel_rfl
theorem zo_43 : zeroOf Try.prog 43 = some [(.bool false), (.bool false), (.bool false), (.bool false), (.bool false), (.bool false), (.bool false), (.bool false), (.bool false), (.bool false), (.bool false), (.bool false), (.bool false), (.bool false), (.bool false), (.bool false), (.bool false), (.bool false), (.bool false), (.bool false), (.bool false), (.bool false), (.bool false), (.bool false), (.bool false), (.bool false)] := by kernel_rfl
theorem zo_52 : zeroOf Try.prog 52 = some [(.int .i64 0), (.string ⟨#[]⟩), (.string ⟨#[]⟩), (.string ⟨#[]⟩), (.int .i64 0), (.int .i64 0)] := by kernel_rfl
theorem zo_56 : zeroOf Try.prog 56 = some [(.int .i64 0), (.string ⟨#[]⟩), (.string ⟨#[]⟩), (.string ⟨#[]⟩), (.int .i64 0), (.int .i64 0), (.int .i64 0), (.int .i64 0), (.string ⟨#[]⟩), (.string ⟨#[]⟩), (.int .i64 0), (.int .i64 0), (.int .i64 0), (.bool false), (.string ⟨#[]⟩), (.string ⟨#[]⟩), (.slice none 0 0)] := by kernel_rfl
theorem zo_87 : zeroOf Try.prog 87 = some [.nilFunc] := by kernel_rfl
theorem zo_121 : zeroOf Try.prog 121 = some [(.string ⟨#[]⟩), (.string ⟨#[]⟩)] := by kernel_rfl
theorem st_24 : structTab Try.prog 24 = some ([(0, 1), (1, 1), (2, 1), (3, 1), (4, 1), (5, 1)], [(.int .i64 0), (.int .i64 0), (.int .i64 0), (.bool false), (.string ⟨#[]⟩), (.string ⟨#[]⟩)]) := by kernel_rfl
theorem st_28 : structTab Try.prog 28 = some ([(0, 1), (1, 1), (2, 1), (3, 1), (4, 1), (5, 1)], [(.string ⟨#[]⟩), (.int .i64 0), (.int .i64 0), (.slice none 0 0), (.slice none 0 0), (.slice none 0 0)]) := by kernel_rfl
theorem st_30 : structTab Try.prog 30 = some ([(0, 1), (1, 1)], [(.string ⟨#[]⟩), (.string ⟨#[]⟩)]) := by kernel_rfl
theorem st_33 : structTab Try.prog 33 = some ([(0, 1), (1, 1)], [(.int .i64 0), (.slice none 0 0)]) := by kernel_rfl
theorem st_35 : structTab Try.prog 35 = some ([(0, 1), (1, 1), (2, 1), (3, 1), (4, 1), (5, 1), (6, 1), (7, 6)], [(.int .i64 0), (.string ⟨#[]⟩), (.string ⟨#[]⟩), (.string ⟨#[]⟩), (.int .i64 0), (.int .i64 0), (.bool false), (.int .i64 0), (.int .i64 0), (.int .i64 0), (.bool false), (.string ⟨#[]⟩), (.string ⟨#[]⟩)]) := by kernel_rfl
theorem st_52 : structTab Try.prog 52 = some ([(0, 1), (1, 1), (2, 1), (3, 1), (4, 1), (5, 1)], [(.int .i64 0), (.string ⟨#[]⟩), (.string ⟨#[]⟩), (.string ⟨#[]⟩), (.int .i64 0), (.int .i64 0)]) := by kernel_rfl
theorem st_54 : structTab Try.prog 54 = some ([(0, 1), (1, 1), (2, 2), (4, 6), (10, 1)], [(.int .i64 0), (.int .i64 0), (.string ⟨#[]⟩), (.string ⟨#[]⟩), (.int .i64 0), (.int .i64 0), (.int .i64 0), (.bool false), (.string ⟨#[]⟩), (.string ⟨#[]⟩), (.slice none 0 0)]) := by kernel_rfl
theorem st_56 : structTab Try.prog 56 = some ([(0, 6), (6, 11)], [(.int .i64 0), (.string ⟨#[]⟩), (.string ⟨#[]⟩), (.string ⟨#[]⟩), (.int .i64 0), (.int .i64 0), (.int .i64 0), (.int .i64 0), (.string ⟨#[]⟩), (.string ⟨#[]⟩), (.int .i64 0), (.int .i64 0), (.int .i64 0), (.bool false), (.string ⟨#[]⟩), (.string ⟨#[]⟩), (.slice none 0 0)]) := by kernel_rfl
theorem st_90 : structTab Try.prog 90 = some ([(0, 1), (1, 1)], [(.slice none 0 0), (.int .i64 0)]) := by kernel_rfl
theorem st_121 : structTab Try.prog 121 = some ([(0, 1), (1, 1)], [(.string ⟨#[]⟩), (.string ⟨#[]⟩)]) := by kernel_rfl
theorem sz_25_1 : slZeros Try.prog 25 1 = some (24, 6, [(.int .i64 0), (.int .i64 0), (.int .i64 0), (.bool false), (.string ⟨#[]⟩), (.string ⟨#[]⟩)]) := by kernel_rfl
theorem sz_25_2 : slZeros Try.prog 25 2 = some (24, 6, [(.int .i64 0), (.int .i64 0), (.int .i64 0), (.bool false), (.string ⟨#[]⟩), (.string ⟨#[]⟩), (.int .i64 0), (.int .i64 0), (.int .i64 0), (.bool false), (.string ⟨#[]⟩), (.string ⟨#[]⟩)]) := by kernel_rfl
theorem sz_26_1 : slZeros Try.prog 26 1 = some (30, 2, [(.string ⟨#[]⟩), (.string ⟨#[]⟩)]) := by kernel_rfl
theorem sz_31_1 : slZeros Try.prog 31 1 = some (28, 6, [(.string ⟨#[]⟩), (.int .i64 0), (.int .i64 0), (.slice none 0 0), (.slice none 0 0), (.slice none 0 0)]) := by kernel_rfl
theorem sz_31_2 : slZeros Try.prog 31 2 = some (28, 6, [(.string ⟨#[]⟩), (.int .i64 0), (.int .i64 0), (.slice none 0 0), (.slice none 0 0), (.slice none 0 0), (.string ⟨#[]⟩), (.int .i64 0), (.int .i64 0), (.slice none 0 0), (.slice none 0 0), (.slice none 0 0)]) := by kernel_rfl
theorem sz_36_1 : slZeros Try.prog 36 1 = some (35, 13, [(.int .i64 0), (.string ⟨#[]⟩), (.string ⟨#[]⟩), (.string ⟨#[]⟩), (.int .i64 0), (.int .i64 0), (.bool false), (.int .i64 0), (.int .i64 0), (.int .i64 0), (.bool false), (.string ⟨#[]⟩), (.string ⟨#[]⟩)]) := by kernel_rfl
theorem sz_36_2 : slZeros Try.prog 36 2 = some (35, 13, [(.int .i64 0), (.string ⟨#[]⟩), (.string ⟨#[]⟩), (.string ⟨#[]⟩), (.int .i64 0), (.int .i64 0), (.bool false), (.int .i64 0), (.int .i64 0), (.int .i64 0), (.bool false), (.string ⟨#[]⟩), (.string ⟨#[]⟩), (.int .i64 0), (.string ⟨#[]⟩), (.string ⟨#[]⟩), (.string ⟨#[]⟩), (.int .i64 0), (.int .i64 0), (.bool false), (.int .i64 0), (.int .i64 0), (.int .i64 0), (.bool false), (.string ⟨#[]⟩), (.string ⟨#[]⟩)]) := by kernel_rfl
theorem sz_36_18 : slZeros Try.prog 36 18 = some (35, 13, [(.int .i64 0), (.string ⟨#[]⟩), (.string ⟨#[]⟩), (.string ⟨#[]⟩), (.int .i64 0), (.int .i64 0), (.bool false), (.int .i64 0), (.int .i64 0), (.int .i64 0), (.bool false), (.string ⟨#[]⟩), (.string ⟨#[]⟩), (.int .i64 0), (.string ⟨#[]⟩), (.string ⟨#[]⟩), (.string ⟨#[]⟩), (.int .i64 0), (.int .i64 0), (.bool false), (.int .i64 0), (.int .i64 0), (.int .i64 0), (.bool false), (.string ⟨#[]⟩), (.string ⟨#[]⟩), (.int .i64 0), (.string ⟨#[]⟩), (.string ⟨#[]⟩), (.string ⟨#[]⟩), (.int .i64 0), (.int .i64 0), (.bool false), (.int .i64 0), (.int .i64 0), (.int .i64 0), (.bool false), (.string ⟨#[]⟩), (.string ⟨#[]⟩), (.int .i64 0), (.string ⟨#[]⟩), (.string ⟨#[]⟩), (.string ⟨#[]⟩), (.int .i64 0), (.int .i64 0), (.bool false), (.int .i64 0), (.int .i64 0), (.int .i64 0), (.bool false), (.string ⟨#[]⟩), (.string ⟨#[]⟩), (.int .i64 0), (.string ⟨#[]⟩), (.string ⟨#[]⟩), (.string ⟨#[]⟩), (.int .i64 0), (.int .i64 0), (.bool false), (.int .i64 0), (.int .i64 0), (.int .i64 0), (.bool false), (.string ⟨#[]⟩), (.string ⟨#[]⟩), (.int .i64 0), (.string ⟨#[]⟩), (.string ⟨#[]⟩), (.string ⟨#[]⟩), (.int .i64 0), (.int .i64 0), (.bool false), (.int .i64 0), (.int .i64 0), (.int .i64 0), (.bool false), (.string ⟨#[]⟩), (.string ⟨#[]⟩), (.int .i64 0), (.string ⟨#[]⟩), (.string ⟨#[]⟩), (.string ⟨#[]⟩), (.int .i64 0), (.int .i64 0), (.bool false), (.int .i64 0), (.int .i64 0), (.int .i64 0), (.bool false), (.string ⟨#[]⟩), (.string ⟨#[]⟩), (.int .i64 0), (.string ⟨#[]⟩), (.string ⟨#[]⟩), (.string ⟨#[]⟩), (.int .i64 0), (.int .i64 0), (.bool false), (.int .i64 0), (.int .i64 0), (.int .i64 0), (.bool false), (.string ⟨#[]⟩), (.string ⟨#[]⟩), (.int .i64 0), (.string ⟨#[]⟩), (.string ⟨#[]⟩), (.string ⟨#[]⟩), (.int .i64 0), (.int .i64 0), (.bool false), (.int .i64 0), (.int .i64 0), (.int .i64 0), (.bool false), (.string ⟨#[]⟩), (.string ⟨#[]⟩), (.int .i64 0), (.string ⟨#[]⟩), (.string ⟨#[]⟩), (.string ⟨#[]⟩), (.int .i64 0), (.int .i64 0), (.bool false), (.int .i64 0), (.int .i64 0), (.int .i64 0), (.bool false), (.string ⟨#[]⟩), (.string ⟨#[]⟩), (.int .i64 0), (.string ⟨#[]⟩), (.string ⟨#[]⟩), (.string ⟨#[]⟩), (.int .i64 0), (.int .i64 0), (.bool false), (.int .i64 0), (.int .i64 0), (.int .i64 0), (.bool false), (.string ⟨#[]⟩), (.string ⟨#[]⟩), (.int .i64 0), (.string ⟨#[]⟩), (.string ⟨#[]⟩), (.string ⟨#[]⟩), (.int .i64 0), (.int .i64 0), (.bool false), (.int .i64 0), (.int .i64 0), (.int .i64 0), (.bool false), (.string ⟨#[]⟩), (.string ⟨#[]⟩), (.int .i64 0), (.string ⟨#[]⟩), (.string ⟨#[]⟩), (.string ⟨#[]⟩), (.int .i64 0), (.int .i64 0), (.bool false), (.int .i64 0), (.int .i64 0), (.int .i64 0), (.bool false), (.string ⟨#[]⟩), (.string ⟨#[]⟩), (.int .i64 0), (.string ⟨#[]⟩), (.string ⟨#[]⟩), (.string ⟨#[]⟩), (.int .i64 0), (.int .i64 0), (.bool false), (.int .i64 0), (.int .i64 0), (.int .i64 0), (.bool false), (.string ⟨#[]⟩), (.string ⟨#[]⟩), (.int .i64 0), (.string ⟨#[]⟩), (.string ⟨#[]⟩), (.string ⟨#[]⟩), (.int .i64 0), (.int .i64 0), (.bool false), (.int .i64 0), (.int .i64 0), (.int .i64 0), (.bool false), (.string ⟨#[]⟩), (.string ⟨#[]⟩), (.int .i64 0), (.string ⟨#[]⟩), (.string ⟨#[]⟩), (.string ⟨#[]⟩), (.int .i64 0), (.int .i64 0), (.bool false), (.int .i64 0), (.int .i64 0), (.int .i64 0), (.bool false), (.string ⟨#[]⟩), (.string ⟨#[]⟩), (.int .i64 0), (.string ⟨#[]⟩), (.string ⟨#[]⟩), (.string ⟨#[]⟩), (.int .i64 0), (.int .i64 0), (.bool false), (.int .i64 0), (.int .i64 0), (.int .i64 0), (.bool false), (.string ⟨#[]⟩), (.string ⟨#[]⟩), (.int .i64 0), (.string ⟨#[]⟩), (.string ⟨#[]⟩), (.string ⟨#[]⟩), (.int .i64 0), (.int .i64 0), (.bool false), (.int .i64 0), (.int .i64 0), (.int .i64 0), (.bool false), (.string ⟨#[]⟩), (.string ⟨#[]⟩)]) := by kernel_rfl
theorem sz_37_2 : slZeros Try.prog 37 2 = some (3, 1, [(.int .i64 0), (.int .i64 0)]) := by kernel_rfl
theorem sz_37_18 : slZeros Try.prog 37 18 = some (3, 1, [(.int .i64 0), (.int .i64 0), (.int .i64 0), (.int .i64 0), (.int .i64 0), (.int .i64 0), (.int .i64 0), (.int .i64 0), (.int .i64 0), (.int .i64 0), (.int .i64 0), (.int .i64 0), (.int .i64 0), (.int .i64 0), (.int .i64 0), (.int .i64 0), (.int .i64 0), (.int .i64 0)]) := by kernel_rfl
theorem sz_50_1 : slZeros Try.prog 50 1 = some (56, 17, [(.int .i64 0), (.string ⟨#[]⟩), (.string ⟨#[]⟩), (.string ⟨#[]⟩), (.int .i64 0), (.int .i64 0), (.int .i64 0), (.int .i64 0), (.string ⟨#[]⟩), (.string ⟨#[]⟩), (.int .i64 0), (.int .i64 0), (.int .i64 0), (.bool false), (.string ⟨#[]⟩), (.string ⟨#[]⟩), (.slice none 0 0)]) := by kernel_rfl
theorem sz_73_1 : slZeros Try.prog 73 1 = some (50, 1, [(.slice none 0 0)]) := by kernel_rfl
theorem sz_95_2 : slZeros Try.prog 95 2 = some (25, 1, [(.slice none 0 0), (.slice none 0 0)]) := by kernel_rfl
theorem mixed : Try.prog.follows .mixedOrders = true := by kernel_rfl
end Go.Proofs.Ythnmoiilaaoooaa.L
