/- What the types' tables of this seat's program say: small facts, by the kernel. -/
import Derived.Test.YtfpkeanimkgpaaaProg
import Derived.Test.YtfpkeanimkgpaaaLB
namespace Go.Proofs.Ytfpkeanimkgpaaa.L
open Go Go.Proofs
theorem fo_28_0 : fieldOff Try.prog 28 0 = some 0 := by kernel_rfl
theorem fo_28_1 : fieldOff Try.prog 28 1 = some 1 := by kernel_rfl
theorem fo_28_2 : fieldOff Try.prog 28 2 = some 2 := by kernel_rfl
theorem fo_48_0 : fieldOff Try.prog 48 0 = some 0 := by kernel_rfl
theorem fo_48_1 : fieldOff Try.prog 48 1 = some 1 := by kernel_rfl
theorem fo_52_0 : fieldOff Try.prog 52 0 = some 0 := by kernel_rfl
theorem fo_52_1 : fieldOff Try.prog 52 1 = some 1 := by kernel_rfl
theorem fo_54_0 : fieldOff Try.prog 54 0 = some 0 := by kernel_rfl
theorem fo_54_1 : fieldOff Try.prog 54 1 = some 1 := by kernel_rfl
theorem fo_54_2 : fieldOff Try.prog 54 2 = some 2 := by kernel_rfl
theorem fo_60_0 : fieldOff Try.prog 60 0 = some 0 := by kernel_rfl
theorem fo_60_1 : fieldOff Try.prog 60 1 = some 1 := by kernel_rfl
theorem fo_60_2 : fieldOff Try.prog 60 2 = some 2 := by kernel_rfl
theorem fo_68_0 : fieldOff Try.prog 68 0 = some 0 := by kernel_rfl
theorem fo_68_1 : fieldOff Try.prog 68 1 = some 1 := by kernel_rfl
theorem fo_68_2 : fieldOff Try.prog 68 2 = some 2 := by kernel_rfl
theorem fo_73_0 : fieldOff Try.prog 73 0 = some 0 := by kernel_rfl
theorem fo_76_0 : fieldOff Try.prog 76 0 = some 0 := by kernel_rfl
theorem fo_76_1 : fieldOff Try.prog 76 1 = some 1 := by kernel_rfl
theorem fo_82_0 : fieldOff Try.prog 82 0 = some 0 := by kernel_rfl
theorem fo_82_1 : fieldOff Try.prog 82 1 = some 3 := by kernel_rfl
theorem fo_94_0 : fieldOff Try.prog 94 0 = some 0 := by kernel_rfl
theorem fo_94_1 : fieldOff Try.prog 94 1 = some 1 := by kernel_rfl
theorem ck_3 : cellK Try.prog 3 = some (false, 1) := by kernel_rfl
theorem ck_4 : cellK Try.prog 4 = some (false, 1) := by kernel_rfl
theorem ck_9 : cellK Try.prog 9 = some (false, 1) := by kernel_rfl
theorem ck_28 : cellK Try.prog 28 = some (true, 3) := by kernel_rfl
theorem ck_39 : cellK Try.prog 39 = some (true, 2) := by kernel_rfl
theorem ck_45 : cellK Try.prog 45 = some (false, 1) := by kernel_rfl
theorem ck_46 : cellK Try.prog 46 = some (false, 1) := by kernel_rfl
theorem ck_50 : cellK Try.prog 50 = some (false, 1) := by kernel_rfl
theorem ck_54 : cellK Try.prog 54 = some (true, 3) := by kernel_rfl
theorem ck_60 : cellK Try.prog 60 = some (true, 3) := by kernel_rfl
theorem ck_74 : cellK Try.prog 74 = some (false, 1) := by kernel_rfl
theorem ck_82 : cellK Try.prog 82 = some (true, 4) := by kernel_rfl
theorem ck_94 : cellK Try.prog 94 = some (true, 2) := by kernel_rfl
theorem ck_153 : cellK Try.prog 153 = some (false, 1) := by kernel_rfl
theorem se_32 : slElem Try.prog 32 = some (39, 2, 16) := by kernel_rfl
theorem ze_39 : zeroOf Try.prog 39 = some [(.int .i64 0), (.int .i64 0)] := by kernel_rfl
theorem se_36 : slElem Try.prog 36 = some (3, 1, 8) := by kernel_rfl
theorem ze_3 : zeroOf Try.prog 3 = some [(.int .i64 0)] := by kernel_rfl
theorem se_44 : slElem Try.prog 44 = some (54, 3, 24) := by kernel_rfl
theorem ze_54 : zeroOf Try.prog 54 = some [(.int .i64 0), (.int .i64 0), (.int .i64 0)] := by kernel_rfl
theorem se_46 : slElem Try.prog 46 = some (94, 2, 16) := by kernel_rfl
theorem ze_94 : zeroOf Try.prog 94 = some [(.int .i64 0), (.int .i64 0)] := by kernel_rfl
theorem se_50 : slElem Try.prog 50 = some (60, 3, 24) := by kernel_rfl
theorem ze_60 : zeroOf Try.prog 60 = some [(.int .i64 0), (.int .i64 0), (.int .i64 0)] := by kernel_rfl
theorem se_61 : slElem Try.prog 61 = some (4, 1, 1) := by kernel_rfl
theorem ze_4 : zeroOf Try.prog 4 = some [(.bool false)] := by kernel_rfl
theorem se_66 : slElem Try.prog 66 = some (68, 6, 64) := by kernel_rfl
theorem ze_68 : zeroOf Try.prog 68 = some [(.int .i64 0), (.int .i64 0), (.int .i64 0), (.int .i64 0), (.string ⟨#[]⟩), (.string ⟨#[]⟩)] := by kernel_rfl
theorem se_74 : slElem Try.prog 74 = some (82, 4, 48) := by kernel_rfl
theorem ze_82 : zeroOf Try.prog 82 = some [(.int .i64 0), (.string ⟨#[]⟩), (.string ⟨#[]⟩), (.pointer none)] := by kernel_rfl
theorem se_106 : slElem Try.prog 106 = some (9, 1, 16) := by kernel_rfl
theorem ze_9 : zeroOf Try.prog 9 = some [(.string ⟨#[]⟩)] := by kernel_rfl
theorem zo_3 : zeroOf Try.prog 3 = some [(.int .i64 0)] := by kernel_rfl
theorem zo_28 : zeroOf Try.prog 28 = some [(.int .i64 0), (.string ⟨#[]⟩), (.string ⟨#[]⟩)] := by kernel_rfl
theorem zo_39 : zeroOf Try.prog 39 = some [(.int .i64 0), (.int .i64 0)] := by kernel_rfl
theorem zo_54 : zeroOf Try.prog 54 = some [(.int .i64 0), (.int .i64 0), (.int .i64 0)] := by kernel_rfl
theorem zo_60 : zeroOf Try.prog 60 = some [(.int .i64 0), (.int .i64 0), (.int .i64 0)] := by kernel_rfl
theorem zo_82 : zeroOf Try.prog 82 = some [(.int .i64 0), (.string ⟨#[]⟩), (.string ⟨#[]⟩), (.pointer none)] := by kernel_rfl
theorem zo_94 : zeroOf Try.prog 94 = some [(.int .i64 0), (.int .i64 0)] := by kernel_rfl
theorem zo_153 : zeroOf Try.prog 153 = some [(.int .u64 0)] := by kernel_rfl
theorem st_28 : structTab Try.prog 28 = some ([(0, 1), (1, 1), (2, 1)], [(.int .i64 0), (.string ⟨#[]⟩), (.string ⟨#[]⟩)]) := by kernel_rfl
theorem st_48 : structTab Try.prog 48 = some ([(0, 1), (1, 1)], [(.slice none 0 0), (.slice none 0 0)]) := by kernel_rfl
theorem st_52 : structTab Try.prog 52 = some ([(0, 1), (1, 1)], [(.slice none 0 0), (.slice none 0 0)]) := by kernel_rfl
theorem st_60 : structTab Try.prog 60 = some ([(0, 1), (1, 1), (2, 1)], [(.int .i64 0), (.int .i64 0), (.int .i64 0)]) := by kernel_rfl
theorem st_76 : structTab Try.prog 76 = some ([(0, 1), (1, 1)], [(.int .i64 0), (.slice none 0 0)]) := by kernel_rfl
theorem st_82 : structTab Try.prog 82 = some ([(0, 3), (3, 1)], [(.int .i64 0), (.string ⟨#[]⟩), (.string ⟨#[]⟩), (.pointer none)]) := by kernel_rfl
theorem st_94 : structTab Try.prog 94 = some ([(0, 1), (1, 1)], [(.int .i64 0), (.int .i64 0)]) := by kernel_rfl
theorem sz_32_1 : slZeros Try.prog 32 1 = some (39, 2, [(.int .i64 0), (.int .i64 0)]) := by kernel_rfl
theorem sz_32_2 : slZeros Try.prog 32 2 = some (39, 2, [(.int .i64 0), (.int .i64 0), (.int .i64 0), (.int .i64 0)]) := by kernel_rfl
theorem sz_32_3 : slZeros Try.prog 32 3 = some (39, 2, [(.int .i64 0), (.int .i64 0), (.int .i64 0), (.int .i64 0), (.int .i64 0), (.int .i64 0)]) := by kernel_rfl
theorem sz_36_1 : slZeros Try.prog 36 1 = some (3, 1, [(.int .i64 0)]) := by kernel_rfl
theorem sz_36_2 : slZeros Try.prog 36 2 = some (3, 1, [(.int .i64 0), (.int .i64 0)]) := by kernel_rfl
theorem sz_36_3 : slZeros Try.prog 36 3 = some (3, 1, [(.int .i64 0), (.int .i64 0), (.int .i64 0)]) := by kernel_rfl
theorem sz_36_5 : slZeros Try.prog 36 5 = some (3, 1, [(.int .i64 0), (.int .i64 0), (.int .i64 0), (.int .i64 0), (.int .i64 0)]) := by kernel_rfl
theorem sz_36_6 : slZeros Try.prog 36 6 = some (3, 1, [(.int .i64 0), (.int .i64 0), (.int .i64 0), (.int .i64 0), (.int .i64 0), (.int .i64 0)]) := by kernel_rfl
theorem sz_46_1 : slZeros Try.prog 46 1 = some (94, 2, [(.int .i64 0), (.int .i64 0)]) := by kernel_rfl
theorem sz_50_1 : slZeros Try.prog 50 1 = some (60, 3, [(.int .i64 0), (.int .i64 0), (.int .i64 0)]) := by kernel_rfl
theorem sz_74_1 : slZeros Try.prog 74 1 = some (82, 4, [(.int .i64 0), (.string ⟨#[]⟩), (.string ⟨#[]⟩), (.pointer none)]) := by kernel_rfl
theorem sz_106_6 : slZeros Try.prog 106 6 = some (9, 1, [(.string ⟨#[]⟩), (.string ⟨#[]⟩), (.string ⟨#[]⟩), (.string ⟨#[]⟩), (.string ⟨#[]⟩), (.string ⟨#[]⟩)]) := by kernel_rfl
theorem mixed : Try.prog.follows .mixedOrders = true := by kernel_rfl
end Go.Proofs.Ytfpkeanimkgpaaa.L
