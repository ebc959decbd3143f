/- The library's sort of edges: laid at this program. -/
import Derived.Test.YtcpkcjabmookmaaGreatS3
namespace Go.Proofs.YtcpkcjabmookmaaGreat.L
open Go Go.Proofs
attribute [local irreducible] pv fv pt fz RowF RowO rowP old pure_ elA
set_option maxRecDepth 100000
set_option linter.unusedSimpArgs false
set_option linter.unusedVariables false

open Go.Shelf
def layF6_ren : Shelf.Ren where
  f := fun x => match x with | 6 => 42 | 15 => 76 | 14 => 75 | 28 => 98 | 29 => 99 | 20 => 90 | 21 => 91 | 22 => 92 | 23 => 93 | 24 => 94 | 25 => 95 | 26 => 96 | 27 => 97 | 46 => 114 | 47 => 115 | 48 => 116 | 49 => 117 | 50 => 118 | 57 => 123 | n => n
  t := fun x => match x with | 22 => 46 | 24 => 84 | 25 => 88 | 3 => 3 | 39 => 114 | 0 => 0 | 53 => 130 | 55 => 132 | 4 => 4 | 46 => 124 | 45 => 123 | 50 => 56 | 5 => 5 | 9 => 9 | 66 => 143 | 70 => 147 | 76 => 151 | 77 => 152 | n => n
  g := fun x => x
theorem layF6 : Go.Proofs.SlLaysF0.n6 Go.Proofs.Tryz.prog layF6_ren :=
  { mixed := (by kernel_rfl), f6 := Exists.intro "slices.SortFunc[[][2]int,[2]int]" ⟨of_decide_eq_true (by kernel_rfl), Eq.trans Go.Proofs.Tryz.func42 (congrArg Option.some (by kernel_rfl))⟩, f14 := Exists.intro "slices.pdqsortCmpFunc[[2]int]" ⟨of_decide_eq_true (by kernel_rfl), Eq.trans Go.Proofs.Tryz.func75 (congrArg Option.some (by kernel_rfl))⟩, f15 := Eq.trans Go.Proofs.Tryz.func76 (congrArg Option.some (by kernel_rfl)), f20 := Exists.intro "slices.insertionSortCmpFunc[[2]int]" ⟨of_decide_eq_true (by kernel_rfl), Eq.trans Go.Proofs.Tryz.func90 (congrArg Option.some (by kernel_rfl))⟩, f21 := Exists.intro "slices.heapSortCmpFunc[[2]int]" ⟨of_decide_eq_true (by kernel_rfl), Eq.trans Go.Proofs.Tryz.func91 (congrArg Option.some (by kernel_rfl))⟩, f22 := Exists.intro "slices.breakPatternsCmpFunc[[2]int]" ⟨of_decide_eq_true (by kernel_rfl), Eq.trans Go.Proofs.Tryz.func92 (congrArg Option.some (by kernel_rfl))⟩, f23 := Exists.intro "slices.choosePivotCmpFunc[[2]int]" ⟨of_decide_eq_true (by kernel_rfl), Eq.trans Go.Proofs.Tryz.func93 (congrArg Option.some (by kernel_rfl))⟩, f24 := Exists.intro "slices.reverseRangeCmpFunc[[2]int]" ⟨of_decide_eq_true (by kernel_rfl), Eq.trans Go.Proofs.Tryz.func94 (congrArg Option.some (by kernel_rfl))⟩, f25 := Exists.intro "slices.partialInsertionSortCmpFunc[[2]int]" ⟨of_decide_eq_true (by kernel_rfl), Eq.trans Go.Proofs.Tryz.func95 (congrArg Option.some (by kernel_rfl))⟩, f26 := Exists.intro "slices.partitionEqualCmpFunc[[2]int]" ⟨of_decide_eq_true (by kernel_rfl), Eq.trans Go.Proofs.Tryz.func96 (congrArg Option.some (by kernel_rfl))⟩, f27 := Exists.intro "slices.partitionCmpFunc[[2]int]" ⟨of_decide_eq_true (by kernel_rfl), Eq.trans Go.Proofs.Tryz.func97 (congrArg Option.some (by kernel_rfl))⟩, f28 := Eq.trans Go.Proofs.Tryz.func98 (congrArg Option.some (by kernel_rfl)), f29 := Eq.trans Go.Proofs.Tryz.func99 (congrArg Option.some (by kernel_rfl)), f46 := Exists.intro "slices.siftDownCmpFunc[[2]int]" ⟨of_decide_eq_true (by kernel_rfl), Eq.trans Go.Proofs.Tryz.func114 (congrArg Option.some (by kernel_rfl))⟩, f47 := Eq.trans Go.Proofs.Tryz.func115 (congrArg Option.some (by kernel_rfl)), f48 := Eq.trans Go.Proofs.Tryz.func116 (congrArg Option.some (by kernel_rfl)), f49 := Exists.intro "slices.medianAdjacentCmpFunc[[2]int]" ⟨of_decide_eq_true (by kernel_rfl), Eq.trans Go.Proofs.Tryz.func117 (congrArg Option.some (by kernel_rfl))⟩, f50 := Exists.intro "slices.medianCmpFunc[[2]int]" ⟨of_decide_eq_true (by kernel_rfl), Eq.trans Go.Proofs.Tryz.func118 (congrArg Option.some (by kernel_rfl))⟩, f57 := Exists.intro "slices.order2CmpFunc[[2]int]" ⟨of_decide_eq_true (by kernel_rfl), Eq.trans Go.Proofs.Tryz.func123 (congrArg Option.some (by kernel_rfl))⟩, t0 := Go.Proofs.Tryz.underlying0, a0 := Go.Proofs.Tryz.isAgg0, z0 := Go.Proofs.Tryz.sizeOf0, v0 := Go.Proofs.Tryz.zeroValue0, t3 := Go.Proofs.Tryz.underlying3, a3 := Go.Proofs.Tryz.isAgg3, z3 := Go.Proofs.Tryz.sizeOf3, v3 := Go.Proofs.Tryz.zeroValue3, t4 := Go.Proofs.Tryz.underlying4, a4 := Go.Proofs.Tryz.isAgg4, z4 := Go.Proofs.Tryz.sizeOf4, v4 := Go.Proofs.Tryz.zeroValue4, t5 := Go.Proofs.Tryz.underlying5, a5 := Go.Proofs.Tryz.isAgg5, z5 := Go.Proofs.Tryz.sizeOf5, v5 := Go.Proofs.Tryz.zeroValue5, t9 := Go.Proofs.Tryz.underlying9, a9 := Go.Proofs.Tryz.isAgg9, z9 := Go.Proofs.Tryz.sizeOf9, v9 := Go.Proofs.Tryz.zeroValue9, t22 := Go.Proofs.Tryz.underlying46, a22 := Go.Proofs.Tryz.isAgg46, z22 := Go.Proofs.Tryz.sizeOf46, v22 := Go.Proofs.Tryz.zeroValue46, t25 := Go.Proofs.Tryz.underlying88, a25 := Go.Proofs.Tryz.isAgg88, z25 := Go.Proofs.Tryz.sizeOf88, v25 := Go.Proofs.Tryz.zeroValue88, t39 := Go.Proofs.Tryz.underlying114, a39 := Go.Proofs.Tryz.isAgg114, z39 := Go.Proofs.Tryz.sizeOf114, v39 := Go.Proofs.Tryz.zeroValue114, t45 := Go.Proofs.Tryz.underlying123, a45 := Go.Proofs.Tryz.isAgg123, z45 := Go.Proofs.Tryz.sizeOf123, v45 := Go.Proofs.Tryz.zeroValue123, t46 := Go.Proofs.Tryz.underlying124, a46 := Go.Proofs.Tryz.isAgg124, z46 := Go.Proofs.Tryz.sizeOf124, v46 := Go.Proofs.Tryz.zeroValue124, t50 := Go.Proofs.Tryz.underlying56, a50 := Go.Proofs.Tryz.isAgg56, z50 := Go.Proofs.Tryz.sizeOf56, v50 := Go.Proofs.Tryz.zeroValue56, t53 := Go.Proofs.Tryz.underlying130, a53 := Go.Proofs.Tryz.isAgg130, z53 := Go.Proofs.Tryz.sizeOf130, v53 := Go.Proofs.Tryz.zeroValue130, t55 := Go.Proofs.Tryz.underlying132, a55 := Go.Proofs.Tryz.isAgg132, z55 := Go.Proofs.Tryz.sizeOf132, v55 := Go.Proofs.Tryz.zeroValue132, t66 := Go.Proofs.Tryz.underlying143, a66 := Go.Proofs.Tryz.isAgg143, z66 := Go.Proofs.Tryz.sizeOf143, v66 := Go.Proofs.Tryz.zeroValue143, t70 := Go.Proofs.Tryz.underlying147, a70 := Go.Proofs.Tryz.isAgg147, z70 := Go.Proofs.Tryz.sizeOf147, v70 := Go.Proofs.Tryz.zeroValue147, t76 := Go.Proofs.Tryz.underlying151, a76 := Go.Proofs.Tryz.isAgg151, z76 := Go.Proofs.Tryz.sizeOf151, v76 := Go.Proofs.Tryz.zeroValue151, t77 := Go.Proofs.Tryz.underlying152, a77 := Go.Proofs.Tryz.isAgg152, z77 := Go.Proofs.Tryz.sizeOf152, v77 := Go.Proofs.Tryz.zeroValue152 }
theorem ed_cmp (x y : P2) : Fn Tryz.prog 43 [.agg x.cells.toArray, .agg y.cells.toArray].toArray [] (fun r post => r = .int .i64 (cfP2 x y) ∧ post = []) := by
  refine Fn.enter (N := 17) Tryz.func43 rfl Tryz.ntmps43 (by kernel_rfl) rfl (fun ρ L => ?_)
  refine K.seq ?_
  refine K.region ?_
  refine KO.loud rfl (l_box rfl rfl) ?_
  rintro _ _ ⟨b2, rfl, rfl⟩
  refine KO.loud rfl (l_box rfl rfl) ?_
  rintro _ _ ⟨b3, rfl, rfl⟩
  refine KO.q rfl (q_assign rfl) ?_
  refine KO.done ?_
  refine K.seq ?_
  refine K.drawS [pv b2 84 x.cells, pv b3 84 y.cells] (fun _ h => h.subD) mixed ?_
  refine D.q 0 rfl (by kernel_rfl) (by kernel_rfl) (q_ixA ar_p2 rfl rfl (by decide) (by decide)) (fun _ h => h.subD) ?_
  refine D.q 1 rfl (by kernel_rfl) (by kernel_rfl) (q_load1D ck_3 rfl) (fun _ h => h.subD) ?_
  refine D.q 2 rfl (by kernel_rfl) (by kernel_rfl) (q_ixA ar_p2 rfl rfl (by decide) (by decide)) (fun _ h => h.subD) ?_
  refine D.q 3 rfl (by kernel_rfl) (by kernel_rfl) (q_load1D ck_3 rfl) (fun _ h => h.subD) ?_
  refine D.q 5 rfl (by kernel_rfl) (by kernel_rfl) (q_ixA ar_p2 rfl rfl (by decide) (by decide)) (fun _ h => h.subD) ?_
  refine D.q 6 rfl (by kernel_rfl) (by kernel_rfl) (q_load1D ck_3 rfl) (fun _ h => h.subD) ?_
  refine D.q 7 rfl (by kernel_rfl) (by kernel_rfl) (q_ixA ar_p2 rfl rfl (by decide) (by decide)) (fun _ h => h.subD) ?_
  refine D.q 8 rfl (by kernel_rfl) (by kernel_rfl) (q_load1D ck_3 rfl) (fun _ h => h.subD) ?_
  refine D.all (rs := [4]) (by kernel_rfl) rfl (DAll.cons rfl (by kernel_rfl) (OpL.callD rfl (h := cmp_int _ _)) (.inr (by rintro _ _ ⟨_, ⟨rfl, rfl⟩, rfl⟩ w h; exact h.subD)) rfl ?_ DAll.nil)
  rintro _ _ ⟨_, ⟨rfl, rfl⟩, rfl⟩
  refine D.all (rs := [9]) (by kernel_rfl) rfl (DAll.cons rfl (by kernel_rfl) (OpL.callD rfl (h := cmp_int _ _)) (.inr (by rintro _ _ ⟨_, ⟨rfl, rfl⟩, rfl⟩ w h; exact h.subD)) rfl ?_ DAll.nil)
  rintro _ _ ⟨_, ⟨rfl, rfl⟩, rfl⟩
  refine D.all (rs := [10]) (by kernel_rfl) rfl (DAll.cons rfl (by kernel_rfl) (l_slice sz_39_2 rfl (by repeat (first | exact Fill.nil | (apply Fill.cons; rfl; rfl; rfl) | exact SetN.nil | apply SetN.cons | exact SetAt.here | apply SetAt.there))) (.inr (by rintro _ _ ⟨b15, rfl, rfl⟩ w h; exact h.subD)) rfl ?_ DAll.nil)
  rintro _ _ ⟨b15, rfl, rfl⟩
  refine D.st (fun w h => pv_ints [cmpI x.a y.a, cmpI x.b y.b] rfl h) ?_
  refine D.all (rs := [11]) (by kernel_rfl) rfl (DAll.cons rfl (by kernel_rfl) (OpL.callE rfl (or_int (some ⟨b15, 0, none⟩) 2 [cmpI x.a y.a, cmpI x.b y.b] (by simp))) (.inr (by rintro _ _ ⟨_, ⟨rfl, rfl⟩, rfl⟩ w h; exact h.subD)) rfl ?_ DAll.nil)
  rintro _ _ ⟨_, ⟨rfl, rfl⟩, rfl⟩
  refine D.q 12 rfl (by kernel_rfl) (by kernel_rfl) (q_assign rfl) (fun _ h => h.subD) ?_
  refine D.done (by kernel_rfl) ?_
  refine K.ret (fn := Tryz.f43) Tryz.func43 (fun a w hk hs => res1 Tryz.results43 hk rfl) (fun w hs => ?_)
  refine ⟨_, [], rfl, ⟨?_, rfl⟩, hs.fitD⟩
  refine congrArg (Value.int .i64) ?_
  unfold cfP2 cmpI
  (repeat' split) <;> first | omega | (simp_all; done) | (simp_all; omega)
theorem so_SortP (e : TypeId) (p : Option Addr) (cap : Nat) (xs : List P2) (hl : xs.length < 4611686018427387904) : Fn Tryz.prog 42 [.slice p xs.length cap, .func (.func 43) #[] #[]].toArray [RowO Kd.p2 e p cap xs] (fun r post => r = .tuple #[] ∧ post = [RowO Kd.p2 e p cap (xs.mergeSort leP2)]) :=
  sortP ⟨_, Tryz.func42, rfl, (by decide +kernel)⟩ (fun blk off cap d w hH hb hs => AnyQ.slices_SortFunc_total layF6 2 Tryz.isAgg84 Tryz.sizeOf84 P2.cells p2_sz p2_one cfP2 swoP2 43 #[] blk off cap d w (enters_of Tryz.func43 (by kernel_rfl) rfl) (fun m os dk hdk x y => Fn.lays (ed_cmp x y) _) hH hb hs totP2) (fun p c w => AnyF.slices_SortFunc_none layF6 p c _ w) e p cap xs hl
#print axioms so_SortP
end Go.Proofs.YtcpkcjabmookmaaGreat.L
