/- Whatever stays at a crash, the state behind all changes that were answered OK is there, or also the one more that was not; no condition. -/
import Derived.Test.YtkbhldicnamcdaaGreatKeepSureF
import Derived.Test.YtkbhldicnamcdaaGreatRows
import Derived.WalkKit
import Derived.ProofKit
import Derived.OpenShut
import Derived.ShutString
import Derived.ChangeOld
import Derived.Below
import Derived.SizedLaws
import Derived.Carry
namespace Go.Proofs.YtkbhldicnamcdaaGreat.keepSureL
open Go.ChangeShapes Go.WideShapes Go.ChangeAt Go.RowKit
open Go.ChangeMaps (open_string shut_string)
set_option linter.unusedVariables false
theorem own : ownKnob Tryz.prog.godebug = none := by kernel_rfl
theorem laid : laidOutB Tryz.prog = true := by kernel_rfl
set_option maxRecDepth 100000 in
theorem lifted (os : Os) (started : os.Started) (H : Type) (enc : TypeId × Value → H) :
    ReturnsInHanded {} Tryz.checked os 8 .any (Rows.keepSureSpec.pre6 enc Tryz.prog Tryz.f8 Rows.keepSureRow.domain false) (Rows.keepSureSpec.post enc Tryz.prog Tryz.f8 false true false false) := by
  refine returnsInHanded_of_change_sized (C := Tryz.checked) own started (by kernel_rfl) Tryz.func8
    (ChangeSpec.witness6 (enc := enc) (C := Tryz.checked) false ⟨#[], #[.slice none 0 0, .int .i64 0, .slice none 0 0], []⟩ 8 (by kernel_rfl) (by kernel_rfl) (by kernel_rfl) (by kernel_rfl)) ?_
  intro W base args ds gs before hval0 hW hcnd hsz0 _
  have hval : ∀ (j : Nat) t v, Tryz.f8.params[j]? = some t → args[j]? = some v → Value.okWide Tryz.prog W .any base t v := hval0
  have hW' := hW
  obtain ⟨p, q, hA0, hV, rfl, hfz, hnd⟩ := hW
  have hA : DataW.TrodAll enc Tryz.prog W 0 (fun _ => true) true Tryz.f8.params.toList args.toList ds p := hA0
  rw [Tryz.params8] at hA hval
  obtain ⟨v0, vs0, d0, ds0, p0, q0, hargs, rfl, rfl, h0, r0⟩ := trodAll_cons hA
  obtain ⟨v1, vs1, d1, ds1, p1, q1, rfl, rfl, rfl, h1, r1⟩ := trodAll_cons r0
  obtain ⟨v2, vs2, d2, ds2, p2, q2, rfl, rfl, rfl, h2, r2⟩ := trodAll_cons r1
  obtain ⟨rfl, rfl, rfl⟩ := trodAll_nil r2
  obtain rfl : args = #[v0, v1, v2] := by cases args; simp_all
  obtain ⟨rfl, rfl⟩ := trodVars_none hV
  have k0 := h0
  obtain ⟨u0, n0, c0, rfl⟩ := okWide_slice Tryz.underlying75 (hval 0 75 v0 rfl rfl)
  obtain ⟨fuel0, f0⟩ := h0
  obtain ⟨p_0, x0, c_0, e0, l0, m0, B0, g0⟩ := L.opens_slice (k := L.Kd.effs) Tryz.underlying75 (by kernel_rfl) (by decide) L.opens_effs f0
  obtain ⟨rfl, rfl, rfl⟩ : u0 = p_0 ∧ n0 = x0.length ∧ c0 = c_0 := by simpa [Value.cells] using e0
  obtain ⟨a1, rfl, rfl, rfl, w1⟩ := open_int Tryz.underlying3 (hval 1 3 v1 rfl rfl) h1
  have b1 := bounds_i64 w1
  have k2 := h2
  obtain ⟨u2, n2, c2, rfl⟩ := okWide_slice Tryz.underlying67 (hval 2 67 v2 rfl rfl)
  obtain ⟨fuel2, f2⟩ := h2
  obtain ⟨p_2, x2, c_2, e2, l2, m2, B2, g2⟩ := L.opens_slice (k := L.Kd.boolK) Tryz.underlying67 (by kernel_rfl) (by decide) (L.opens_bool Tryz.underlying4) f2
  obtain ⟨rfl, rfl, rfl⟩ : u2 = p_2 ∧ n2 = x2.length ∧ c2 = c_2 := by simpa [Value.cells] using e2
  clear hA0 hval0 hsz0
  refine (L.Fn.law (L.law_KeepSure u0 c0 x0 a1 u2 c2 x2 (by omega) (fun s hs => ⟨(B0 s hs).1, (B0 s hs).2.1⟩) b1.2 (by omega)) W (L.St.slsOf (by repeat (first | exact List.Mem.head _ | apply List.Mem.tail)) (fun s hs => (B0 s hs).2.2) (L.St.rowOf (by repeat (first | exact List.Mem.head _ | apply List.Mem.tail)) g0 (L.St.rowOf (by repeat (first | exact List.Mem.head _ | apply List.Mem.tail)) g2 (L.St.start W))))).mono fun e W' ⟨he, bel⟩ => ?_
  subst he
  exact ⟨_, rfl, _, _, _, [], _, [], hW', trodAll_mk1 (shut_bool Tryz.underlying4 _), (trodAll_cons_mk (Below.trod laid (by kernel_rfl) (of_decide_eq_true (by kernel_rfl)) k0 bel (fun x hx => by simpa using hW'.lt x (by simp [hx]))) (trodAll_cons_mk (shut_int Tryz.underlying3 w1) (trodAll_cons_mk (Below.trod laid (by kernel_rfl) (of_decide_eq_true (by kernel_rfl)) k2 bel (fun x hx => by simpa using hW'.lt x (by simp [hx]))) trodAll_mk0))), rfl, bel.frame _, fun h => by cases h⟩
theorem over : Rows.keepSureRow.holds Tryz.pinned (OpenSpec.ofChange Rows.keepSureSpec) :=
  OpenClaim.holds_of_wide 8 Tryz.f8 rfl rfl rfl rfl rfl rfl rfl ⟨rfl, rfl, rfl, rfl, rfl⟩ rfl rfl rfl rfl rfl (by kernel_rfl) Tryz.func8 (by kernel_rfl)
    (of_decide_eq_true (by kernel_rfl)) (by unfold Func.isWrapper; first | (rw [if_pos (by decide +kernel)]; kernel_rfl) | (rw [if_neg (by decide +kernel)]; exact ⟨rfl, rfl⟩))
    (fun os started H enc _ => lifted os started H enc)
theorem proved : Rows.KeepSureSaid := over
#print axioms proved
end Go.Proofs.YtkbhldicnamcdaaGreat.keepSureL
namespace Go.Proofs.YtkbhldicnamcdaaGreat
/-- The row, under a short name, for the claim. -/
theorem keepSure_holds : Rows.KeepSureSaid := keepSureL.proved
end Go.Proofs.YtkbhldicnamcdaaGreat
