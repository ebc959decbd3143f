/- The law StateMakes: objects stand by their names in whichever order they were made, and how many there may be. No condition. -/
import Derived.Test.YthnmoiilaaoooaaRows
import Derived.Test.YthnmoiilaaoooaaF5
import Derived.Test.YthnmoiilaaoooaaLB
import Derived.WalkKit
import Derived.ProofKit
import Derived.OpenShut
import Derived.ShutString
import Derived.ChangeOld
import Derived.Below
import Derived.SizedLaws
import Derived.Carry
namespace Go.Proofs.Ythnmoiilaaoooaa.stateMakesL
open Go.ChangeShapes Go.WideShapes Go.ChangeAt Go.RowKit
open Go.ChangeMaps (open_string shut_string)
set_option linter.unusedVariables false
theorem own : ownKnob Try.prog.godebug = none := by kernel_rfl
theorem laid : laidOutB Try.prog = true := by kernel_rfl
set_option maxRecDepth 100000 in
theorem lifted (os : Os) (started : os.Started) (H : Type) (enc : TypeId × Value → H) :
    ReturnsInHanded {} Try.checked os 4 .any (Rows.stateMakesSpec.pre6 enc Try.prog Try.f4 Rows.stateMakesRow.domain false) (Rows.stateMakesSpec.post enc Try.prog Try.f4 false true false false) := by
  refine returnsInHanded_of_change_sized (C := Try.checked) own started (by kernel_rfl) Try.func4
    (ChangeSpec.witness6 (enc := enc) (C := Try.checked) false ⟨#[], #[.slice none 0 0], []⟩ 8 (by kernel_rfl) (by kernel_rfl) (by kernel_rfl) (by kernel_rfl)) ?_
  intro W base args ds gs before hval0 hW hcnd hsz0 _
  have hval : ∀ (j : Nat) t v, Try.f4.params[j]? = some t → args[j]? = some v → Value.okWide Try.prog W .any base t v := hval0
  have hW' := hW
  obtain ⟨p, q, hA0, hV, rfl, hfz, hnd⟩ := hW
  have hA : DataW.TrodAll enc Try.prog W 0 (fun _ => true) true Try.f4.params.toList args.toList ds p := hA0
  rw [Try.params4] at hA hval
  obtain ⟨v0, vs0, d0, ds0, p0, q0, hargs, rfl, rfl, h0, r0⟩ := trodAll_cons hA
  obtain ⟨rfl, rfl, rfl⟩ := trodAll_nil r0
  obtain rfl : args = #[v0] := by cases args; simp_all
  obtain ⟨rfl, rfl⟩ := trodVars_none hV
  have k0 := h0
  obtain ⟨u0, n0, c0, rfl⟩ := okWide_slice Try.underlying37 (hval 0 37 v0 rfl rfl)
  obtain ⟨fuel0, f0⟩ := h0
  obtain ⟨p_0, x0, c_0, e0, l0, m0, B0, g0⟩ := L.opens_slice (k := L.Kd.int .i64) Try.underlying37 (by kernel_rfl) (by decide) (L.opens_int Try.underlying3) f0
  obtain ⟨rfl, rfl, rfl⟩ : u0 = p_0 ∧ n0 = x0.length ∧ c0 = c_0 := by simpa [Value.cells] using e0
  clear hA0 hval0 hsz0
  refine (L.Fn.law (L.law_StateMakes u0 c0 x0 l0) W (L.St.rowOf (by repeat (first | exact List.Mem.head _ | apply List.Mem.tail)) g0 (L.St.start W))).mono fun e W' ⟨he, bel⟩ => ?_
  subst he
  exact ⟨_, rfl, _, _, _, [], _, [], hW', trodAll_mk1 (shut_bool Try.underlying4 _), (trodAll_cons_mk (Below.trod laid (by kernel_rfl) (of_decide_eq_true (by kernel_rfl)) k0 bel (fun x hx => by simpa using hW'.lt x (by simp [hx]))) trodAll_mk0), rfl, bel.frame _, fun h => by cases h⟩
theorem over : Rows.stateMakesRow.holds Try.pinned (OpenSpec.ofChange Rows.stateMakesSpec) :=
  OpenClaim.holds_of_wide 4 Try.f4 rfl rfl rfl rfl rfl rfl rfl ⟨rfl, rfl, rfl, rfl, rfl⟩ rfl rfl rfl rfl rfl (by kernel_rfl) Try.func4 (by kernel_rfl)
    (of_decide_eq_true (by kernel_rfl)) (by unfold Func.isWrapper; first | (rw [if_pos (by decide +kernel)]; kernel_rfl) | (rw [if_neg (by decide +kernel)]; exact ⟨rfl, rfl⟩))
    (fun os started H enc _ => lifted os started H enc)
theorem proved : Rows.StateMakesSaid := over
#print axioms proved
end Go.Proofs.Ythnmoiilaaoooaa.stateMakesL
namespace Go.Proofs.Ythnmoiilaaoooaa
/-- The row, under a short name, for the claim. -/
theorem stateMakes_holds : Rows.StateMakesSaid := stateMakesL.proved
end Go.Proofs.Ythnmoiilaaoooaa
