/- The law StateFrees: behind its Claims nothing is claimed, each message that was is in its queue still, tried once more, or set aside, and no other one is turned. No condition. -/
import Derived.Test.YthnmoiilaaoooaaRows
import Derived.Test.YthnmoiilaaoooaaF3
import Derived.Test.YthnmoiilaaoooaaLB
import Derived.WalkKit
import Derived.ProofKit
import Derived.OpenShut
import Derived.ShutString
import Derived.ChangeOld
import Derived.Below
import Derived.SizedLaws
import Derived.Carry
namespace Go.Proofs.Ythnmoiilaaoooaa.stateFreesL
open Go.ChangeShapes Go.WideShapes Go.ChangeAt Go.RowKit
open Go.ChangeMaps (open_string shut_string)
set_option linter.unusedVariables false
theorem own : ownKnob Try.prog.godebug = none := by kernel_rfl
theorem laid : laidOutB Try.prog = true := by kernel_rfl
set_option maxRecDepth 100000 in
theorem lifted (os : Os) (started : os.Started) (H : Type) (enc : TypeId × Value → H) :
    ReturnsInHanded {} Try.checked os 5 .any (Rows.stateFreesSpec.pre6 enc Try.prog Try.f5 Rows.stateFreesRow.domain false) (Rows.stateFreesSpec.post enc Try.prog Try.f5 false true false false) := by
  refine returnsInHanded_of_change_sized (C := Try.checked) own started (by kernel_rfl) Try.func5
    (ChangeSpec.witness6 (enc := enc) (C := Try.checked) false ⟨#[], #[.agg #[.int .i64 0, .slice none 0 0]], []⟩ 8 (by kernel_rfl) (by kernel_rfl) (by kernel_rfl) (by kernel_rfl)) ?_
  intro W base args ds gs before hval0 hW hcnd hsz0 _
  have hval : ∀ (j : Nat) t v, Try.f5.params[j]? = some t → args[j]? = some v → Value.okWide Try.prog W .any base t v := hval0
  have hW' := hW
  obtain ⟨p, q, hA0, hV, rfl, hfz, hnd⟩ := hW
  have hA : DataW.TrodAll enc Try.prog W 0 (fun _ => true) true Try.f5.params.toList args.toList ds p := hA0
  rw [Try.params5] at hA hval
  obtain ⟨v0, vs0, d0, ds0, p0, q0, hargs, rfl, rfl, h0, r0⟩ := trodAll_cons hA
  obtain ⟨rfl, rfl, rfl⟩ := trodAll_nil r0
  obtain rfl : args = #[v0] := by cases args; simp_all
  obtain ⟨rfl, rfl⟩ := trodVars_none hV
  have k0 := h0
  obtain ⟨u0, rfl, _⟩ := okWide_struct Try.underlying33 (hval 0 33 v0 rfl rfl)
  obtain ⟨fuel0, f0⟩ := h0
  have z0 : L.Light Try.prog 33 d0 := fun n hn => by
    have := List.all_eq_true.1 hsz0 n (DataW.weights_mem_each (j := 0) (t := 33) (d := d0) (by rw [Try.params5]; rfl) rfl n hn)
    simpa using this
  obtain ⟨x0, e0, B0, G0, N0⟩ := L.opensW_st _ _ _ f0 z0
  obtain rfl : u0 = (x0.cells).toArray := Array.ext' (show u0.toList = _ from e0)
  clear hA0 hval0 hsz0
  refine (L.Fn.law (L.law_StateFrees x0 B0) W (L.St.stOf (by repeat (first | exact List.Mem.head _ | apply List.Mem.tail)) G0 N0 (L.St.start W))).mono fun e W' ⟨he, bel⟩ => ?_
  subst he
  exact ⟨_, rfl, _, _, _, [], _, [], hW', trodAll_mk1 (shut_bool Try.underlying4 _), (trodAll_cons_mk (Below.trod laid (by kernel_rfl) (of_decide_eq_true (by kernel_rfl)) k0 bel (fun x hx => by simpa using hW'.lt x (by simp [hx]))) trodAll_mk0), rfl, bel.frame _, fun h => by cases h⟩
theorem over : Rows.stateFreesRow.holds Try.pinned (OpenSpec.ofChange Rows.stateFreesSpec) :=
  OpenClaim.holds_of_wide 5 Try.f5 rfl rfl rfl rfl rfl rfl rfl ⟨rfl, rfl, rfl, rfl, rfl⟩ rfl rfl rfl rfl rfl (by kernel_rfl) Try.func5 (by kernel_rfl)
    (of_decide_eq_true (by kernel_rfl)) (by unfold Func.isWrapper; first | (rw [if_pos (by decide +kernel)]; kernel_rfl) | (rw [if_neg (by decide +kernel)]; exact ⟨rfl, rfl⟩))
    (fun os started H enc _ => lifted os started H enc)
theorem proved : Rows.StateFreesSaid := over
#print axioms proved
end Go.Proofs.Ythnmoiilaaoooaa.stateFreesL
namespace Go.Proofs.Ythnmoiilaaoooaa
/-- The row, under a short name, for the claim. -/
theorem stateFrees_holds : Rows.StateFreesSaid := stateFreesL.proved
end Go.Proofs.Ythnmoiilaaoooaa
