/- What the types' tables of this seat's program say: small facts, by the kernel. -/
import Derived.Test.YthnmoiilaaoooaaGreatProg
import Derived.Test.YthnmoiilaaoooaaGreatLB
namespace Go.Proofs.YthnmoiilaaoooaaGreat.L
open Go Go.Proofs
theorem fo_24_0 : fieldOff Tryz.prog 24 0 = some 0 := by kernel_rfl
theorem fo_24_1 : fieldOff Tryz.prog 24 1 = some 1 := by kernel_rfl
theorem fo_29_0 : fieldOff Tryz.prog 29 0 = some 0 := by kernel_rfl
theorem fo_29_1 : fieldOff Tryz.prog 29 1 = some 1 := by kernel_rfl
theorem fo_33_0 : fieldOff Tryz.prog 33 0 = some 0 := by kernel_rfl
theorem fo_33_1 : fieldOff Tryz.prog 33 1 = some 1 := by kernel_rfl
theorem fo_33_2 : fieldOff Tryz.prog 33 2 = some 2 := by kernel_rfl
theorem fo_33_3 : fieldOff Tryz.prog 33 3 = some 3 := by kernel_rfl
theorem fo_33_4 : fieldOff Tryz.prog 33 4 = some 4 := by kernel_rfl
theorem fo_33_5 : fieldOff Tryz.prog 33 5 = some 5 := by kernel_rfl
theorem fo_36_0 : fieldOff Tryz.prog 36 0 = some 0 := by kernel_rfl
theorem fo_36_1 : fieldOff Tryz.prog 36 1 = some 1 := by kernel_rfl
theorem fo_36_2 : fieldOff Tryz.prog 36 2 = some 2 := by kernel_rfl
theorem fo_36_3 : fieldOff Tryz.prog 36 3 = some 3 := by kernel_rfl
theorem fo_36_4 : fieldOff Tryz.prog 36 4 = some 4 := by kernel_rfl
theorem fo_36_5 : fieldOff Tryz.prog 36 5 = some 5 := by kernel_rfl
theorem fo_39_0 : fieldOff Tryz.prog 39 0 = some 0 := by kernel_rfl
theorem fo_39_1 : fieldOff Tryz.prog 39 1 = some 1 := by kernel_rfl
theorem fo_39_2 : fieldOff Tryz.prog 39 2 = some 2 := by kernel_rfl
theorem fo_39_3 : fieldOff Tryz.prog 39 3 = some 3 := by kernel_rfl
theorem fo_39_4 : fieldOff Tryz.prog 39 4 = some 4 := by kernel_rfl
theorem fo_39_5 : fieldOff Tryz.prog 39 5 = some 5 := by kernel_rfl
theorem fo_41_0 : fieldOff Tryz.prog 41 0 = some 0 := by kernel_rfl
theorem fo_41_1 : fieldOff Tryz.prog 41 1 = some 1 := by kernel_rfl
theorem fo_41_2 : fieldOff Tryz.prog 41 2 = some 2 := by kernel_rfl
theorem fo_41_3 : fieldOff Tryz.prog 41 3 = some 4 := by kernel_rfl
theorem fo_41_4 : fieldOff Tryz.prog 41 4 = some 10 := by kernel_rfl
theorem fo_43_0 : fieldOff Tryz.prog 43 0 = some 0 := by kernel_rfl
theorem fo_43_1 : fieldOff Tryz.prog 43 1 = some 6 := by kernel_rfl
theorem fo_74_0 : fieldOff Tryz.prog 74 0 = some 0 := by kernel_rfl
theorem fo_74_1 : fieldOff Tryz.prog 74 1 = some 1 := by kernel_rfl
theorem fo_80_0 : fieldOff Tryz.prog 80 0 = some 0 := by kernel_rfl
theorem fo_80_1 : fieldOff Tryz.prog 80 1 = some 1 := by kernel_rfl
theorem fo_80_2 : fieldOff Tryz.prog 80 2 = some 2 := by kernel_rfl
theorem fo_80_3 : fieldOff Tryz.prog 80 3 = some 3 := by kernel_rfl
theorem fo_80_4 : fieldOff Tryz.prog 80 4 = some 4 := by kernel_rfl
theorem fo_80_5 : fieldOff Tryz.prog 80 5 = some 5 := by kernel_rfl
theorem fo_80_6 : fieldOff Tryz.prog 80 6 = some 6 := by kernel_rfl
theorem fo_80_7 : fieldOff Tryz.prog 80 7 = some 7 := by kernel_rfl
theorem ck_3 : cellK Tryz.prog 3 = some (false, 1) := by kernel_rfl
theorem ck_4 : cellK Tryz.prog 4 = some (false, 1) := by kernel_rfl
theorem ck_9 : cellK Tryz.prog 9 = some (false, 1) := by kernel_rfl
theorem ck_22 : cellK Tryz.prog 22 = some (false, 1) := by kernel_rfl
theorem ck_24 : cellK Tryz.prog 24 = some (true, 2) := by kernel_rfl
theorem ck_29 : cellK Tryz.prog 29 = some (true, 2) := by kernel_rfl
theorem ck_30 : cellK Tryz.prog 30 = some (false, 1) := by kernel_rfl
theorem ck_31 : cellK Tryz.prog 31 = some (false, 1) := by kernel_rfl
theorem ck_33 : cellK Tryz.prog 33 = some (true, 6) := by kernel_rfl
theorem ck_36 : cellK Tryz.prog 36 = some (true, 6) := by kernel_rfl
theorem ck_37 : cellK Tryz.prog 37 = some (false, 1) := by kernel_rfl
theorem ck_39 : cellK Tryz.prog 39 = some (true, 6) := by kernel_rfl
theorem ck_43 : cellK Tryz.prog 43 = some (true, 17) := by kernel_rfl
theorem ck_46 : cellK Tryz.prog 46 = some (false, 1) := by kernel_rfl
theorem ck_67 : cellK Tryz.prog 67 = some (false, 1) := by kernel_rfl
theorem ck_72 : cellK Tryz.prog 72 = some (false, 1) := by kernel_rfl
theorem ck_80 : cellK Tryz.prog 80 = some (true, 13) := by kernel_rfl
theorem ck_95 : cellK Tryz.prog 95 = some (true, 2) := by kernel_rfl
theorem se_22 : slElem Tryz.prog 22 = some (33, 6, 104) := by kernel_rfl
theorem ze_33 : zeroOf Tryz.prog 33 = some [(.string ⟨#[]⟩), (.int .i64 0), (.int .i64 0), (.slice none 0 0), (.slice none 0 0), (.slice none 0 0)] := by kernel_rfl
theorem se_30 : slElem Tryz.prog 30 = some (29, 2, 32) := by kernel_rfl
theorem ze_29 : zeroOf Tryz.prog 29 = some [(.string ⟨#[]⟩), (.string ⟨#[]⟩)] := by kernel_rfl
theorem se_31 : slElem Tryz.prog 31 = some (39, 6, 64) := by kernel_rfl
theorem ze_39 : zeroOf Tryz.prog 39 = some [(.int .i64 0), (.int .i64 0), (.int .i64 0), (.bool false), (.string ⟨#[]⟩), (.string ⟨#[]⟩)] := by kernel_rfl
theorem se_46 : slElem Tryz.prog 46 = some (43, 17, 208) := by kernel_rfl
theorem ze_43 : zeroOf Tryz.prog 43 = some [(.int .i64 0), (.string ⟨#[]⟩), (.string ⟨#[]⟩), (.string ⟨#[]⟩), (.int .i64 0), (.int .i64 0), (.int .i64 0), (.int .i64 0), (.string ⟨#[]⟩), (.string ⟨#[]⟩), (.int .i64 0), (.int .i64 0), (.int .i64 0), (.bool false), (.string ⟨#[]⟩), (.string ⟨#[]⟩), (.slice none 0 0)] := by kernel_rfl
theorem se_57 : slElem Tryz.prog 57 = some (46, 1, 24) := by kernel_rfl
theorem ze_46 : zeroOf Tryz.prog 46 = some [(.slice none 0 0)] := by kernel_rfl
theorem se_81 : slElem Tryz.prog 81 = some (80, 13, 144) := by kernel_rfl
theorem ze_80 : zeroOf Tryz.prog 80 = some [(.int .i64 0), (.string ⟨#[]⟩), (.string ⟨#[]⟩), (.string ⟨#[]⟩), (.int .i64 0), (.int .i64 0), (.bool false), (.int .i64 0), (.int .i64 0), (.int .i64 0), (.bool false), (.string ⟨#[]⟩), (.string ⟨#[]⟩)] := by kernel_rfl
theorem se_98 : slElem Tryz.prog 98 = some (31, 1, 24) := by kernel_rfl
theorem ze_31 : zeroOf Tryz.prog 31 = some [(.slice none 0 0)] := by kernel_rfl
theorem se_150 : slElem Tryz.prog 150 = some (3, 1, 8) := by kernel_rfl
theorem ze_3 : zeroOf Tryz.prog 3 = some [(.int .i64 0)] := by kernel_rfl
theorem zo_24 : zeroOf Tryz.prog 24 = some [(.int .i64 0), (.slice none 0 0)] := by kernel_rfl
theorem zo_29 : zeroOf Tryz.prog 29 = some [(.string ⟨#[]⟩), (.string ⟨#[]⟩)] := by kernel_rfl
theorem zo_33 : zeroOf Tryz.prog 33 = some [(.string ⟨#[]⟩), (.int .i64 0), (.int .i64 0), (.slice none 0 0), (.slice none 0 0), (.slice none 0 0)] := by kernel_rfl
theorem zo_36 : zeroOf Tryz.prog 36 = some [(.int .i64 0), (.string ⟨#[]⟩), (.string ⟨#[]⟩), (.string ⟨#[]⟩), (.int .i64 0), (.int .i64 0)] := by kernel_rfl
theorem zo_39 : zeroOf Tryz.prog 39 = some [(.int .i64 0), (.int .i64 0), (.int .i64 0), (.bool false), (.string ⟨#[]⟩), (.string ⟨#[]⟩)] := by kernel_rfl
theorem zo_43 : zeroOf Tryz.prog 43 = some [(.int .i64 0), (.string ⟨#[]⟩), (.string ⟨#[]⟩), (.string ⟨#[]⟩), (.int .i64 0), (.int .i64 0), (.int .i64 0), (.int .i64 0), (.string ⟨#[]⟩), (.string ⟨#[]⟩), (.int .i64 0), (.int .i64 0), (.int .i64 0), (.bool false), (.string ⟨#[]⟩), (.string ⟨#[]⟩), (.slice none 0 0)] := by kernel_rfl
theorem zo_67 : zeroOf Tryz.prog 67 = some [.nilFunc] := by kernel_rfl
theorem zo_80 : zeroOf Tryz.prog 80 = some [(.int .i64 0), (.string ⟨#[]⟩), (.string ⟨#[]⟩), (.string ⟨#[]⟩), (.int .i64 0), (.int .i64 0), (.bool false), (.int .i64 0), (.int .i64 0), (.int .i64 0), (.bool false), (.string ⟨#[]⟩), (.string ⟨#[]⟩)] := by kernel_rfl
theorem zo_95 : zeroOf Tryz.prog 95 = some [(.string ⟨#[]⟩), (.string ⟨#[]⟩)] := by kernel_rfl
theorem st_24 : structTab Tryz.prog 24 = some ([(0, 1), (1, 1)], [(.int .i64 0), (.slice none 0 0)]) := by kernel_rfl
theorem st_29 : structTab Tryz.prog 29 = some ([(0, 1), (1, 1)], [(.string ⟨#[]⟩), (.string ⟨#[]⟩)]) := by kernel_rfl
theorem st_33 : structTab Tryz.prog 33 = some ([(0, 1), (1, 1), (2, 1), (3, 1), (4, 1), (5, 1)], [(.string ⟨#[]⟩), (.int .i64 0), (.int .i64 0), (.slice none 0 0), (.slice none 0 0), (.slice none 0 0)]) := by kernel_rfl
theorem st_36 : structTab Tryz.prog 36 = some ([(0, 1), (1, 1), (2, 1), (3, 1), (4, 1), (5, 1)], [(.int .i64 0), (.string ⟨#[]⟩), (.string ⟨#[]⟩), (.string ⟨#[]⟩), (.int .i64 0), (.int .i64 0)]) := by kernel_rfl
theorem st_39 : structTab Tryz.prog 39 = some ([(0, 1), (1, 1), (2, 1), (3, 1), (4, 1), (5, 1)], [(.int .i64 0), (.int .i64 0), (.int .i64 0), (.bool false), (.string ⟨#[]⟩), (.string ⟨#[]⟩)]) := by kernel_rfl
theorem st_41 : structTab Tryz.prog 41 = some ([(0, 1), (1, 1), (2, 2), (4, 6), (10, 1)], [(.int .i64 0), (.int .i64 0), (.string ⟨#[]⟩), (.string ⟨#[]⟩), (.int .i64 0), (.int .i64 0), (.int .i64 0), (.bool false), (.string ⟨#[]⟩), (.string ⟨#[]⟩), (.slice none 0 0)]) := by kernel_rfl
theorem st_43 : structTab Tryz.prog 43 = some ([(0, 6), (6, 11)], [(.int .i64 0), (.string ⟨#[]⟩), (.string ⟨#[]⟩), (.string ⟨#[]⟩), (.int .i64 0), (.int .i64 0), (.int .i64 0), (.int .i64 0), (.string ⟨#[]⟩), (.string ⟨#[]⟩), (.int .i64 0), (.int .i64 0), (.int .i64 0), (.bool false), (.string ⟨#[]⟩), (.string ⟨#[]⟩), (.slice none 0 0)]) := by kernel_rfl
theorem st_74 : structTab Tryz.prog 74 = some ([(0, 1), (1, 1)], [(.slice none 0 0), (.int .i64 0)]) := by kernel_rfl
theorem st_80 : structTab Tryz.prog 80 = some ([(0, 1), (1, 1), (2, 1), (3, 1), (4, 1), (5, 1), (6, 1), (7, 6)], [(.int .i64 0), (.string ⟨#[]⟩), (.string ⟨#[]⟩), (.string ⟨#[]⟩), (.int .i64 0), (.int .i64 0), (.bool false), (.int .i64 0), (.int .i64 0), (.int .i64 0), (.bool false), (.string ⟨#[]⟩), (.string ⟨#[]⟩)]) := by kernel_rfl
theorem st_95 : structTab Tryz.prog 95 = some ([(0, 1), (1, 1)], [(.string ⟨#[]⟩), (.string ⟨#[]⟩)]) := by kernel_rfl
theorem sz_22_1 : slZeros Tryz.prog 22 1 = some (33, 6, [(.string ⟨#[]⟩), (.int .i64 0), (.int .i64 0), (.slice none 0 0), (.slice none 0 0), (.slice none 0 0)]) := by kernel_rfl
theorem sz_30_1 : slZeros Tryz.prog 30 1 = some (29, 2, [(.string ⟨#[]⟩), (.string ⟨#[]⟩)]) := by kernel_rfl
theorem sz_31_1 : slZeros Tryz.prog 31 1 = some (39, 6, [(.int .i64 0), (.int .i64 0), (.int .i64 0), (.bool false), (.string ⟨#[]⟩), (.string ⟨#[]⟩)]) := by kernel_rfl
theorem sz_46_1 : slZeros Tryz.prog 46 1 = some (43, 17, [(.int .i64 0), (.string ⟨#[]⟩), (.string ⟨#[]⟩), (.string ⟨#[]⟩), (.int .i64 0), (.int .i64 0), (.int .i64 0), (.int .i64 0), (.string ⟨#[]⟩), (.string ⟨#[]⟩), (.int .i64 0), (.int .i64 0), (.int .i64 0), (.bool false), (.string ⟨#[]⟩), (.string ⟨#[]⟩), (.slice none 0 0)]) := by kernel_rfl
theorem sz_46_2 : slZeros Tryz.prog 46 2 = some (43, 17, [(.int .i64 0), (.string ⟨#[]⟩), (.string ⟨#[]⟩), (.string ⟨#[]⟩), (.int .i64 0), (.int .i64 0), (.int .i64 0), (.int .i64 0), (.string ⟨#[]⟩), (.string ⟨#[]⟩), (.int .i64 0), (.int .i64 0), (.int .i64 0), (.bool false), (.string ⟨#[]⟩), (.string ⟨#[]⟩), (.slice none 0 0), (.int .i64 0), (.string ⟨#[]⟩), (.string ⟨#[]⟩), (.string ⟨#[]⟩), (.int .i64 0), (.int .i64 0), (.int .i64 0), (.int .i64 0), (.string ⟨#[]⟩), (.string ⟨#[]⟩), (.int .i64 0), (.int .i64 0), (.int .i64 0), (.bool false), (.string ⟨#[]⟩), (.string ⟨#[]⟩), (.slice none 0 0)]) := by kernel_rfl
theorem sz_57_1 : slZeros Tryz.prog 57 1 = some (46, 1, [(.slice none 0 0)]) := by kernel_rfl
theorem sz_57_2 : slZeros Tryz.prog 57 2 = some (46, 1, [(.slice none 0 0), (.slice none 0 0)]) := by kernel_rfl
theorem sz_81_1 : slZeros Tryz.prog 81 1 = some (80, 13, [(.int .i64 0), (.string ⟨#[]⟩), (.string ⟨#[]⟩), (.string ⟨#[]⟩), (.int .i64 0), (.int .i64 0), (.bool false), (.int .i64 0), (.int .i64 0), (.int .i64 0), (.bool false), (.string ⟨#[]⟩), (.string ⟨#[]⟩)]) := by kernel_rfl
theorem sz_98_2 : slZeros Tryz.prog 98 2 = some (31, 1, [(.slice none 0 0), (.slice none 0 0)]) := by kernel_rfl
theorem sz_150_2 : slZeros Tryz.prog 150 2 = some (3, 1, [(.int .i64 0), (.int .i64 0)]) := by kernel_rfl
theorem mixed : Tryz.prog.follows .mixedOrders = true := by kernel_rfl
end Go.Proofs.YthnmoiilaaoooaaGreat.L
