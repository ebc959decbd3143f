/- The library's sort of edges: laid at this program. -/
import Derived.Test.YtfpkeanimkgpaaaS3
namespace Go.Proofs.Ytfpkeanimkgpaaa.L
open Go Go.Proofs
attribute [local irreducible] pv fv pt fz RowF RowO rowP old pure_ elA
set_option maxRecDepth 100000
set_option linter.unusedSimpArgs false
set_option linter.unusedVariables false

open Go.Shelf
def layF6_ren : Shelf.Ren where
  f := fun x => match x with | 6 => 72 | 15 => 87 | 14 => 96 | 28 => 110 | 29 => 111 | 20 => 115 | 21 => 116 | 22 => 117 | 23 => 118 | 24 => 119 | 25 => 120 | 26 => 121 | 27 => 122 | 46 => 131 | 47 => 126 | 48 => 127 | 49 => 132 | 50 => 133 | 57 => 136 | n => n
  t := fun x => match x with | 22 => 32 | 24 => 39 | 25 => 109 | 3 => 3 | 39 => 123 | 0 => 0 | 53 => 140 | 55 => 142 | 4 => 4 | 46 => 134 | 45 => 133 | 50 => 33 | 5 => 5 | 9 => 9 | 66 => 153 | 70 => 157 | 76 => 161 | 77 => 162 | n => n
  g := fun x => x
theorem layF6 : Go.Proofs.SlLaysF0.n6 Go.Proofs.Try.prog layF6_ren :=
  { mixed := (by kernel_rfl), f6 := Exists.intro "slices.SortFunc[[][2]int,[2]int]" ⟨of_decide_eq_true (by kernel_rfl), Eq.trans Go.Proofs.Try.func72 (congrArg Option.some (by kernel_rfl))⟩, f14 := Exists.intro "slices.pdqsortCmpFunc[[2]int]" ⟨of_decide_eq_true (by kernel_rfl), Eq.trans Go.Proofs.Try.func96 (congrArg Option.some (by kernel_rfl))⟩, f15 := Eq.trans Go.Proofs.Try.func87 (congrArg Option.some (by kernel_rfl)), f20 := Exists.intro "slices.insertionSortCmpFunc[[2]int]" ⟨of_decide_eq_true (by kernel_rfl), Eq.trans Go.Proofs.Try.func115 (congrArg Option.some (by kernel_rfl))⟩, f21 := Exists.intro "slices.heapSortCmpFunc[[2]int]" ⟨of_decide_eq_true (by kernel_rfl), Eq.trans Go.Proofs.Try.func116 (congrArg Option.some (by kernel_rfl))⟩, f22 := Exists.intro "slices.breakPatternsCmpFunc[[2]int]" ⟨of_decide_eq_true (by kernel_rfl), Eq.trans Go.Proofs.Try.func117 (congrArg Option.some (by kernel_rfl))⟩, f23 := Exists.intro "slices.choosePivotCmpFunc[[2]int]" ⟨of_decide_eq_true (by kernel_rfl), Eq.trans Go.Proofs.Try.func118 (congrArg Option.some (by kernel_rfl))⟩, f24 := Exists.intro "slices.reverseRangeCmpFunc[[2]int]" ⟨of_decide_eq_true (by kernel_rfl), Eq.trans Go.Proofs.Try.func119 (congrArg Option.some (by kernel_rfl))⟩, f25 := Exists.intro "slices.partialInsertionSortCmpFunc[[2]int]" ⟨of_decide_eq_true (by kernel_rfl), Eq.trans Go.Proofs.Try.func120 (congrArg Option.some (by kernel_rfl))⟩, f26 := Exists.intro "slices.partitionEqualCmpFunc[[2]int]" ⟨of_decide_eq_true (by kernel_rfl), Eq.trans Go.Proofs.Try.func121 (congrArg Option.some (by kernel_rfl))⟩, f27 := Exists.intro "slices.partitionCmpFunc[[2]int]" ⟨of_decide_eq_true (by kernel_rfl), Eq.trans Go.Proofs.Try.func122 (congrArg Option.some (by kernel_rfl))⟩, f28 := Eq.trans Go.Proofs.Try.func110 (congrArg Option.some (by kernel_rfl)), f29 := Eq.trans Go.Proofs.Try.func111 (congrArg Option.some (by kernel_rfl)), f46 := Exists.intro "slices.siftDownCmpFunc[[2]int]" ⟨of_decide_eq_true (by kernel_rfl), Eq.trans Go.Proofs.Try.func131 (congrArg Option.some (by kernel_rfl))⟩, f47 := Eq.trans Go.Proofs.Try.func126 (congrArg Option.some (by kernel_rfl)), f48 := Eq.trans Go.Proofs.Try.func127 (congrArg Option.some (by kernel_rfl)), f49 := Exists.intro "slices.medianAdjacentCmpFunc[[2]int]" ⟨of_decide_eq_true (by kernel_rfl), Eq.trans Go.Proofs.Try.func132 (congrArg Option.some (by kernel_rfl))⟩, f50 := Exists.intro "slices.medianCmpFunc[[2]int]" ⟨of_decide_eq_true (by kernel_rfl), Eq.trans Go.Proofs.Try.func133 (congrArg Option.some (by kernel_rfl))⟩, f57 := Exists.intro "slices.order2CmpFunc[[2]int]" ⟨of_decide_eq_true (by kernel_rfl), Eq.trans Go.Proofs.Try.func136 (congrArg Option.some (by kernel_rfl))⟩, t0 := Go.Proofs.Try.underlying0, a0 := Go.Proofs.Try.isAgg0, z0 := Go.Proofs.Try.sizeOf0, v0 := Go.Proofs.Try.zeroValue0, t3 := Go.Proofs.Try.underlying3, a3 := Go.Proofs.Try.isAgg3, z3 := Go.Proofs.Try.sizeOf3, v3 := Go.Proofs.Try.zeroValue3, t4 := Go.Proofs.Try.underlying4, a4 := Go.Proofs.Try.isAgg4, z4 := Go.Proofs.Try.sizeOf4, v4 := Go.Proofs.Try.zeroValue4, t5 := Go.Proofs.Try.underlying5, a5 := Go.Proofs.Try.isAgg5, z5 := Go.Proofs.Try.sizeOf5, v5 := Go.Proofs.Try.zeroValue5, t9 := Go.Proofs.Try.underlying9, a9 := Go.Proofs.Try.isAgg9, z9 := Go.Proofs.Try.sizeOf9, v9 := Go.Proofs.Try.zeroValue9, t22 := Go.Proofs.Try.underlying32, a22 := Go.Proofs.Try.isAgg32, z22 := Go.Proofs.Try.sizeOf32, v22 := Go.Proofs.Try.zeroValue32, t25 := Go.Proofs.Try.underlying109, a25 := Go.Proofs.Try.isAgg109, z25 := Go.Proofs.Try.sizeOf109, v25 := Go.Proofs.Try.zeroValue109, t39 := Go.Proofs.Try.underlying123, a39 := Go.Proofs.Try.isAgg123, z39 := Go.Proofs.Try.sizeOf123, v39 := Go.Proofs.Try.zeroValue123, t45 := Go.Proofs.Try.underlying133, a45 := Go.Proofs.Try.isAgg133, z45 := Go.Proofs.Try.sizeOf133, v45 := Go.Proofs.Try.zeroValue133, t46 := Go.Proofs.Try.underlying134, a46 := Go.Proofs.Try.isAgg134, z46 := Go.Proofs.Try.sizeOf134, v46 := Go.Proofs.Try.zeroValue134, t50 := Go.Proofs.Try.underlying33, a50 := Go.Proofs.Try.isAgg33, z50 := Go.Proofs.Try.sizeOf33, v50 := Go.Proofs.Try.zeroValue33, t53 := Go.Proofs.Try.underlying140, a53 := Go.Proofs.Try.isAgg140, z53 := Go.Proofs.Try.sizeOf140, v53 := Go.Proofs.Try.zeroValue140, t55 := Go.Proofs.Try.underlying142, a55 := Go.Proofs.Try.isAgg142, z55 := Go.Proofs.Try.sizeOf142, v55 := Go.Proofs.Try.zeroValue142, t66 := Go.Proofs.Try.underlying153, a66 := Go.Proofs.Try.isAgg153, z66 := Go.Proofs.Try.sizeOf153, v66 := Go.Proofs.Try.zeroValue153, t70 := Go.Proofs.Try.underlying157, a70 := Go.Proofs.Try.isAgg157, z70 := Go.Proofs.Try.sizeOf157, v70 := Go.Proofs.Try.zeroValue157, t76 := Go.Proofs.Try.underlying161, a76 := Go.Proofs.Try.isAgg161, z76 := Go.Proofs.Try.sizeOf161, v76 := Go.Proofs.Try.zeroValue161, t77 := Go.Proofs.Try.underlying162, a77 := Go.Proofs.Try.isAgg162, z77 := Go.Proofs.Try.sizeOf162, v77 := Go.Proofs.Try.zeroValue162 }
theorem ed_cmp (x y : P2) : Fn Try.prog 73 [.agg x.cells.toArray, .agg y.cells.toArray].toArray [] (fun r post => r = .int .i64 (cfP2 x y) ∧ post = []) := by
  refine Fn.enter (N := 17) Try.func73 rfl Try.ntmps73 (by kernel_rfl) rfl (fun ρ L => ?_)
  refine K.seq ?_
  refine K.region ?_
  refine KO.loud rfl (l_box rfl rfl) ?_
  rintro _ _ ⟨b2, rfl, rfl⟩
  refine KO.loud rfl (l_box rfl rfl) ?_
  rintro _ _ ⟨b3, rfl, rfl⟩
  refine KO.q rfl (q_assign rfl) ?_
  refine KO.done ?_
  refine K.seq ?_
  refine K.drawS [pv b2 39 x.cells, pv b3 39 y.cells] (fun _ h => h.subD) mixed ?_
  refine D.q 0 rfl (by kernel_rfl) (by kernel_rfl) (q_ixA ar_p2 rfl rfl (by decide) (by decide)) (fun _ h => h.subD) ?_
  refine D.q 1 rfl (by kernel_rfl) (by kernel_rfl) (q_load1D ck_3 rfl) (fun _ h => h.subD) ?_
  refine D.q 2 rfl (by kernel_rfl) (by kernel_rfl) (q_ixA ar_p2 rfl rfl (by decide) (by decide)) (fun _ h => h.subD) ?_
  refine D.q 3 rfl (by kernel_rfl) (by kernel_rfl) (q_load1D ck_3 rfl) (fun _ h => h.subD) ?_
  refine D.q 5 rfl (by kernel_rfl) (by kernel_rfl) (q_ixA ar_p2 rfl rfl (by decide) (by decide)) (fun _ h => h.subD) ?_
  refine D.q 6 rfl (by kernel_rfl) (by kernel_rfl) (q_load1D ck_3 rfl) (fun _ h => h.subD) ?_
  refine D.q 7 rfl (by kernel_rfl) (by kernel_rfl) (q_ixA ar_p2 rfl rfl (by decide) (by decide)) (fun _ h => h.subD) ?_
  refine D.q 8 rfl (by kernel_rfl) (by kernel_rfl) (q_load1D ck_3 rfl) (fun _ h => h.subD) ?_
  refine D.all (rs := [4]) (by kernel_rfl) rfl (DAll.cons rfl (by kernel_rfl) (OpL.callD rfl (h := cmp_int _ _)) (.inr (by rintro _ _ ⟨_, ⟨rfl, rfl⟩, rfl⟩ w h; exact h.subD)) rfl ?_ DAll.nil)
  rintro _ _ ⟨_, ⟨rfl, rfl⟩, rfl⟩
  refine D.all (rs := [9]) (by kernel_rfl) rfl (DAll.cons rfl (by kernel_rfl) (OpL.callD rfl (h := cmp_int _ _)) (.inr (by rintro _ _ ⟨_, ⟨rfl, rfl⟩, rfl⟩ w h; exact h.subD)) rfl ?_ DAll.nil)
  rintro _ _ ⟨_, ⟨rfl, rfl⟩, rfl⟩
  refine D.all (rs := [10]) (by kernel_rfl) rfl (DAll.cons rfl (by kernel_rfl) (l_slice sz_36_2 rfl (by repeat (first | exact Fill.nil | (apply Fill.cons; rfl; rfl; rfl) | exact SetN.nil | apply SetN.cons | exact SetAt.here | apply SetAt.there))) (.inr (by rintro _ _ ⟨b15, rfl, rfl⟩ w h; exact h.subD)) rfl ?_ DAll.nil)
  rintro _ _ ⟨b15, rfl, rfl⟩
  refine D.st (fun w h => pv_ints [cmpI x.a y.a, cmpI x.b y.b] rfl h) ?_
  refine D.all (rs := [11]) (by kernel_rfl) rfl (DAll.cons rfl (by kernel_rfl) (OpL.callE rfl (or_int (some ⟨b15, 0, none⟩) 2 [cmpI x.a y.a, cmpI x.b y.b] (by simp))) (.inr (by rintro _ _ ⟨_, ⟨rfl, rfl⟩, rfl⟩ w h; exact h.subD)) rfl ?_ DAll.nil)
  rintro _ _ ⟨_, ⟨rfl, rfl⟩, rfl⟩
  refine D.q 12 rfl (by kernel_rfl) (by kernel_rfl) (q_assign rfl) (fun _ h => h.subD) ?_
  refine D.done (by kernel_rfl) ?_
  refine K.ret (fn := Try.f73) Try.func73 (fun a w hk hs => res1 Try.results73 hk rfl) (fun w hs => ?_)
  refine ⟨_, [], rfl, ⟨?_, rfl⟩, hs.fitD⟩
  refine congrArg (Value.int .i64) ?_
  unfold cfP2 cmpI
  (repeat' split) <;> first | omega | (simp_all; done) | (simp_all; omega)
theorem so_SortP (e : TypeId) (p : Option Addr) (cap : Nat) (xs : List P2) (hl : xs.length < 4611686018427387904) : Fn Try.prog 72 [.slice p xs.length cap, .func (.func 73) #[] #[]].toArray [RowO Kd.p2 e p cap xs] (fun r post => r = .tuple #[] ∧ post = [RowO Kd.p2 e p cap (xs.mergeSort leP2)]) :=
  sortP ⟨_, Try.func72, rfl, (by decide +kernel)⟩ (fun blk off cap d w hH hb hs => AnyQ.slices_SortFunc_total layF6 2 Try.isAgg39 Try.sizeOf39 P2.cells p2_sz p2_one cfP2 swoP2 73 #[] blk off cap d w (enters_of Try.func73 (by kernel_rfl) rfl) (fun m os dk hdk x y => Fn.lays (ed_cmp x y) _) hH hb hs totP2) (fun p c w => AnyF.slices_SortFunc_none layF6 p c _ w) e p cap xs hl
#print axioms so_SortP
end Go.Proofs.Ytfpkeanimkgpaaa.L
