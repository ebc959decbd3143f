/- The law BytesRead: whatever bytes are read as, item by item, the reader of the document reads the same; the law answers true at every input. No condition. -/
import Derived.Test.YtlellgnklohclaaRows
import Derived.Test.YtlellgnklohclaaS1R
import Derived.Test.YtlellgnklohclaaRead
import Derived.WalkKit
import Derived.ProofKit
import Derived.OpenShut
import Derived.ShutString
import Derived.ChangeOld
import Derived.Below
import Derived.SizedLaws
import Derived.Carry
namespace Go.Proofs.Ytlellgnklohclaa.bytesReadL
open Go.ChangeShapes Go.WideShapes Go.ChangeAt Go.RowKit
open Go.ChangeMaps (open_string shut_string)
set_option linter.unusedVariables false
theorem own : ownKnob Try.prog.godebug = none := by kernel_rfl
theorem laid : laidOutB Try.prog = true := by kernel_rfl
set_option maxRecDepth 100000 in
theorem lifted (os : Os) (started : os.Started) (H : Type) (enc : TypeId × Value → H) :
    ReturnsInHanded {} Try.checked os 6 .any (Rows.bytesReadSpec.pre6 enc Try.prog Try.f6 Rows.bytesReadRow.domain false) (Rows.bytesReadSpec.post enc Try.prog Try.f6 false true false false) := by
  refine returnsInHanded_of_change_sized (C := Try.checked) own started (by kernel_rfl) Try.func6
    (ChangeSpec.witness6 (enc := enc) (C := Try.checked) false ⟨#[], #[.slice none 0 0, .slice none 0 0], []⟩ 8 (by kernel_rfl) (by kernel_rfl) (by kernel_rfl) (by kernel_rfl)) ?_
  intro W base args ds gs before hval0 hW hcnd hsz0 _
  have hval : ∀ (j : Nat) t v, Try.f6.params[j]? = some t → args[j]? = some v → Value.okWide Try.prog W .any base t v := hval0
  have hW' := hW
  obtain ⟨p, q, hA0, hV, rfl, hfz, hnd⟩ := hW
  have hA : DataW.TrodAll enc Try.prog W 0 (fun _ => true) true Try.f6.params.toList args.toList ds p := hA0
  rw [Try.params6] at hA hval
  obtain ⟨v0, vs0, d0, ds0, p0, q0, hargs, rfl, rfl, h0, r0⟩ := trodAll_cons hA
  obtain ⟨v1, vs1, d1, ds1, p1, q1, rfl, rfl, rfl, h1, r1⟩ := trodAll_cons r0
  obtain ⟨rfl, rfl, rfl⟩ := trodAll_nil r1
  obtain rfl : args = #[v0, v1] := by cases args; simp_all
  obtain ⟨rfl, rfl⟩ := trodVars_none hV
  have k0 := h0
  obtain ⟨u0, n0, c0, rfl⟩ := okWide_slice Try.underlying25 (hval 0 25 v0 rfl rfl)
  obtain ⟨fuel0, f0⟩ := h0
  obtain ⟨p_0, x0, c_0, e0, l0, m0, B0, g0⟩ := L.opens_slice (k := L.Kd.u8) Try.underlying25 (by kernel_rfl) (by decide) (L.opens_u8 Try.underlying5) f0
  obtain ⟨rfl, rfl, rfl⟩ : u0 = p_0 ∧ n0 = x0.length ∧ c0 = c_0 := by simpa [Value.cells] using e0
  have k1 := h1
  obtain ⟨u1, n1, c1, rfl⟩ := okWide_slice Try.underlying44 (hval 1 44 v1 rfl rfl)
  obtain ⟨fuel1, f1⟩ := h1
  obtain ⟨p_1, x1, c_1, e1, l1, m1, B1, g1⟩ := L.opens_slice (k := L.Kd.itm) Try.underlying44 (by kernel_rfl) (by decide) L.opens_itm f1
  obtain ⟨rfl, rfl, rfl⟩ : u1 = p_1 ∧ n1 = x1.length ∧ c1 = c_1 := by simpa [Value.cells] using e1
  clear hA0 hval0 hsz0
  refine (L.Fn.law (L.law_BytesRead u0 c0 x0 u1 c1 x1 l0) W (L.St.rowOf (by repeat (first | exact List.Mem.head _ | apply List.Mem.tail)) g0 (L.St.rowOf (by repeat (first | exact List.Mem.head _ | apply List.Mem.tail)) g1 (L.St.start W)))).mono fun e W' ⟨he, bel⟩ => ?_
  subst he
  exact ⟨_, rfl, _, _, _, [], _, [], hW', trodAll_mk1 (shut_bool Try.underlying4 _), (trodAll_cons_mk (Below.trod laid (by kernel_rfl) (of_decide_eq_true (by kernel_rfl)) k0 bel (fun x hx => by simpa using hW'.lt x (by simp [hx]))) (trodAll_cons_mk (Below.trod laid (by kernel_rfl) (of_decide_eq_true (by kernel_rfl)) k1 bel (fun x hx => by simpa using hW'.lt x (by simp [hx]))) trodAll_mk0)), rfl, bel.frame _, fun h => by cases h⟩
theorem over : Rows.bytesReadRow.holds Try.pinned (OpenSpec.ofChange Rows.bytesReadSpec) :=
  OpenClaim.holds_of_wide 6 Try.f6 rfl rfl rfl rfl rfl rfl rfl ⟨rfl, rfl, rfl, rfl, rfl⟩ rfl rfl rfl rfl rfl (by kernel_rfl) Try.func6 (by kernel_rfl)
    (of_decide_eq_true (by kernel_rfl)) (by unfold Func.isWrapper; first | (rw [if_pos (by decide +kernel)]; kernel_rfl) | (rw [if_neg (by decide +kernel)]; exact ⟨rfl, rfl⟩))
    (fun os started H enc _ => lifted os started H enc)
theorem proved : Rows.BytesReadSaid := over
#print axioms proved
end Go.Proofs.Ytlellgnklohclaa.bytesReadL
namespace Go.Proofs.Ytlellgnklohclaa
/-- The row, under a short name, for the claim. -/
theorem bytesRead_holds : Rows.BytesReadSaid := bytesReadL.proved
end Go.Proofs.Ytlellgnklohclaa
