/- What the types' tables of this seat's program say: small facts, by the kernel. -/
import Derived.Test.YtcpkcjabmookmaaGreatProg
import Derived.Test.YtcpkcjabmookmaaGreatLB
namespace Go.Proofs.YtcpkcjabmookmaaGreat.L
open Go Go.Proofs
theorem fo_29_0 : fieldOff Tryz.prog 29 0 = some 0 := by kernel_rfl
theorem fo_31_0 : fieldOff Tryz.prog 31 0 = some 0 := by kernel_rfl
theorem fo_31_1 : fieldOff Tryz.prog 31 1 = some 1 := by kernel_rfl
theorem fo_31_2 : fieldOff Tryz.prog 31 2 = some 2 := by kernel_rfl
theorem fo_33_0 : fieldOff Tryz.prog 33 0 = some 0 := by kernel_rfl
theorem fo_33_1 : fieldOff Tryz.prog 33 1 = some 1 := by kernel_rfl
theorem fo_33_2 : fieldOff Tryz.prog 33 2 = some 2 := by kernel_rfl
theorem fo_33_3 : fieldOff Tryz.prog 33 3 = some 3 := by kernel_rfl
theorem fo_50_0 : fieldOff Tryz.prog 50 0 = some 0 := by kernel_rfl
theorem fo_53_0 : fieldOff Tryz.prog 53 0 = some 0 := by kernel_rfl
theorem fo_53_1 : fieldOff Tryz.prog 53 1 = some 1 := by kernel_rfl
theorem fo_59_0 : fieldOff Tryz.prog 59 0 = some 0 := by kernel_rfl
theorem fo_59_1 : fieldOff Tryz.prog 59 1 = some 1 := by kernel_rfl
theorem fo_59_2 : fieldOff Tryz.prog 59 2 = some 2 := by kernel_rfl
theorem fo_63_0 : fieldOff Tryz.prog 63 0 = some 0 := by kernel_rfl
theorem fo_63_1 : fieldOff Tryz.prog 63 1 = some 3 := by kernel_rfl
theorem fo_68_0 : fieldOff Tryz.prog 68 0 = some 0 := by kernel_rfl
theorem fo_68_1 : fieldOff Tryz.prog 68 1 = some 1 := by kernel_rfl
theorem fo_76_0 : fieldOff Tryz.prog 76 0 = some 0 := by kernel_rfl
theorem fo_76_1 : fieldOff Tryz.prog 76 1 = some 1 := by kernel_rfl
theorem fo_79_0 : fieldOff Tryz.prog 79 0 = some 0 := by kernel_rfl
theorem fo_79_1 : fieldOff Tryz.prog 79 1 = some 3 := by kernel_rfl
theorem fo_100_0 : fieldOff Tryz.prog 100 0 = some 0 := by kernel_rfl
theorem fo_100_1 : fieldOff Tryz.prog 100 1 = some 1 := by kernel_rfl
theorem ck_3 : cellK Tryz.prog 3 = some (false, 1) := by kernel_rfl
theorem ck_9 : cellK Tryz.prog 9 = some (false, 1) := by kernel_rfl
theorem ck_27 : cellK Tryz.prog 27 = some (false, 1) := by kernel_rfl
theorem ck_31 : cellK Tryz.prog 31 = some (true, 3) := by kernel_rfl
theorem ck_33 : cellK Tryz.prog 33 = some (true, 6) := by kernel_rfl
theorem ck_51 : cellK Tryz.prog 51 = some (false, 1) := by kernel_rfl
theorem ck_59 : cellK Tryz.prog 59 = some (true, 3) := by kernel_rfl
theorem ck_61 : cellK Tryz.prog 61 = some (false, 1) := by kernel_rfl
theorem ck_63 : cellK Tryz.prog 63 = some (true, 4) := by kernel_rfl
theorem ck_66 : cellK Tryz.prog 66 = some (false, 1) := by kernel_rfl
theorem ck_74 : cellK Tryz.prog 74 = some (false, 1) := by kernel_rfl
theorem ck_77 : cellK Tryz.prog 77 = some (false, 1) := by kernel_rfl
theorem ck_79 : cellK Tryz.prog 79 = some (true, 4) := by kernel_rfl
theorem ck_84 : cellK Tryz.prog 84 = some (true, 2) := by kernel_rfl
theorem ck_100 : cellK Tryz.prog 100 = some (true, 2) := by kernel_rfl
theorem ck_143 : cellK Tryz.prog 143 = some (false, 1) := by kernel_rfl
theorem se_22 : slElem Tryz.prog 22 = some (33, 6, 64) := by kernel_rfl
theorem ze_33 : zeroOf Tryz.prog 33 = some [(.int .i64 0), (.int .i64 0), (.int .i64 0), (.int .i64 0), (.string ⟨#[]⟩), (.string ⟨#[]⟩)] := by kernel_rfl
theorem se_27 : slElem Tryz.prog 27 = some (79, 4, 48) := by kernel_rfl
theorem ze_79 : zeroOf Tryz.prog 79 = some [(.int .i64 0), (.string ⟨#[]⟩), (.string ⟨#[]⟩), (.pointer none)] := by kernel_rfl
theorem se_39 : slElem Tryz.prog 39 = some (3, 1, 8) := by kernel_rfl
theorem ze_3 : zeroOf Tryz.prog 3 = some [(.int .i64 0)] := by kernel_rfl
theorem se_46 : slElem Tryz.prog 46 = some (84, 2, 16) := by kernel_rfl
theorem ze_84 : zeroOf Tryz.prog 84 = some [(.int .i64 0), (.int .i64 0)] := by kernel_rfl
theorem se_51 : slElem Tryz.prog 51 = some (63, 4, 48) := by kernel_rfl
theorem ze_63 : zeroOf Tryz.prog 63 = some [(.int .i64 0), (.string ⟨#[]⟩), (.string ⟨#[]⟩), (.pointer none)] := by kernel_rfl
theorem se_66 : slElem Tryz.prog 66 = some (100, 2, 16) := by kernel_rfl
theorem ze_100 : zeroOf Tryz.prog 100 = some [(.int .i64 0), (.int .i64 0)] := by kernel_rfl
theorem se_74 : slElem Tryz.prog 74 = some (59, 3, 24) := by kernel_rfl
theorem ze_59 : zeroOf Tryz.prog 59 = some [(.int .i64 0), (.int .i64 0), (.int .i64 0)] := by kernel_rfl
theorem se_120 : slElem Tryz.prog 120 = some (9, 1, 16) := by kernel_rfl
theorem ze_9 : zeroOf Tryz.prog 9 = some [(.string ⟨#[]⟩)] := by kernel_rfl
theorem zo_3 : zeroOf Tryz.prog 3 = some [(.int .i64 0)] := by kernel_rfl
theorem zo_31 : zeroOf Tryz.prog 31 = some [(.int .i64 0), (.string ⟨#[]⟩), (.string ⟨#[]⟩)] := by kernel_rfl
theorem zo_33 : zeroOf Tryz.prog 33 = some [(.int .i64 0), (.int .i64 0), (.int .i64 0), (.int .i64 0), (.string ⟨#[]⟩), (.string ⟨#[]⟩)] := by kernel_rfl
theorem zo_59 : zeroOf Tryz.prog 59 = some [(.int .i64 0), (.int .i64 0), (.int .i64 0)] := by kernel_rfl
theorem zo_63 : zeroOf Tryz.prog 63 = some [(.int .i64 0), (.string ⟨#[]⟩), (.string ⟨#[]⟩), (.pointer none)] := by kernel_rfl
theorem zo_100 : zeroOf Tryz.prog 100 = some [(.int .i64 0), (.int .i64 0)] := by kernel_rfl
theorem zo_143 : zeroOf Tryz.prog 143 = some [(.int .u64 0)] := by kernel_rfl
theorem st_29 : structTab Tryz.prog 29 = some ([(0, 1)], [(.slice none 0 0)]) := by kernel_rfl
theorem st_31 : structTab Tryz.prog 31 = some ([(0, 1), (1, 1), (2, 1)], [(.int .i64 0), (.string ⟨#[]⟩), (.string ⟨#[]⟩)]) := by kernel_rfl
theorem st_53 : structTab Tryz.prog 53 = some ([(0, 1), (1, 1)], [(.int .i64 0), (.slice none 0 0)]) := by kernel_rfl
theorem st_59 : structTab Tryz.prog 59 = some ([(0, 1), (1, 1), (2, 1)], [(.int .i64 0), (.int .i64 0), (.int .i64 0)]) := by kernel_rfl
theorem st_63 : structTab Tryz.prog 63 = some ([(0, 3), (3, 1)], [(.int .i64 0), (.string ⟨#[]⟩), (.string ⟨#[]⟩), (.pointer none)]) := by kernel_rfl
theorem st_68 : structTab Tryz.prog 68 = some ([(0, 1), (1, 1)], [(.slice none 0 0), (.slice none 0 0)]) := by kernel_rfl
theorem st_76 : structTab Tryz.prog 76 = some ([(0, 1), (1, 1)], [(.slice none 0 0), (.slice none 0 0)]) := by kernel_rfl
theorem st_79 : structTab Tryz.prog 79 = some ([(0, 3), (3, 1)], [(.int .i64 0), (.string ⟨#[]⟩), (.string ⟨#[]⟩), (.pointer none)]) := by kernel_rfl
theorem st_100 : structTab Tryz.prog 100 = some ([(0, 1), (1, 1)], [(.int .i64 0), (.int .i64 0)]) := by kernel_rfl
theorem sz_27_1 : slZeros Tryz.prog 27 1 = some (79, 4, [(.int .i64 0), (.string ⟨#[]⟩), (.string ⟨#[]⟩), (.pointer none)]) := by kernel_rfl
theorem sz_39_1 : slZeros Tryz.prog 39 1 = some (3, 1, [(.int .i64 0)]) := by kernel_rfl
theorem sz_39_2 : slZeros Tryz.prog 39 2 = some (3, 1, [(.int .i64 0), (.int .i64 0)]) := by kernel_rfl
theorem sz_39_3 : slZeros Tryz.prog 39 3 = some (3, 1, [(.int .i64 0), (.int .i64 0), (.int .i64 0)]) := by kernel_rfl
theorem sz_39_5 : slZeros Tryz.prog 39 5 = some (3, 1, [(.int .i64 0), (.int .i64 0), (.int .i64 0), (.int .i64 0), (.int .i64 0)]) := by kernel_rfl
theorem sz_39_6 : slZeros Tryz.prog 39 6 = some (3, 1, [(.int .i64 0), (.int .i64 0), (.int .i64 0), (.int .i64 0), (.int .i64 0), (.int .i64 0)]) := by kernel_rfl
theorem sz_46_1 : slZeros Tryz.prog 46 1 = some (84, 2, [(.int .i64 0), (.int .i64 0)]) := by kernel_rfl
theorem sz_51_1 : slZeros Tryz.prog 51 1 = some (63, 4, [(.int .i64 0), (.string ⟨#[]⟩), (.string ⟨#[]⟩), (.pointer none)]) := by kernel_rfl
theorem sz_66_1 : slZeros Tryz.prog 66 1 = some (100, 2, [(.int .i64 0), (.int .i64 0)]) := by kernel_rfl
theorem sz_74_1 : slZeros Tryz.prog 74 1 = some (59, 3, [(.int .i64 0), (.int .i64 0), (.int .i64 0)]) := by kernel_rfl
theorem sz_120_6 : slZeros Tryz.prog 120 6 = some (9, 1, [(.string ⟨#[]⟩), (.string ⟨#[]⟩), (.string ⟨#[]⟩), (.string ⟨#[]⟩), (.string ⟨#[]⟩), (.string ⟨#[]⟩)]) := by kernel_rfl
theorem mixed : Tryz.prog.follows .mixedOrders = true := by kernel_rfl
end Go.Proofs.YtcpkcjabmookmaaGreat.L
