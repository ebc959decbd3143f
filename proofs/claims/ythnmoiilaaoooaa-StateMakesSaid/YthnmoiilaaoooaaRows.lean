/-
  No cell of these rows narrows 'for every input' (looked for: loops, veiled, ifaces, maps, wideKeys, modest, calm, conditions, laid).
  DERIVED. THE GIVEN ROWS OF THIS SEAT. 4 by the template 'for every input the law returns true; each argument reads behind the call as it read before'; 0 by the template 'total and deterministic' (their statements: YthnmoiilaaoooaaTotals.lean).
  GIVEN WITH THE SEED: the statements are not yours to turn. If you find one false, say at which input.
  Laid BY PROGRAM, IN A SANDBOX (cutbox-rows.mjs): the forced cells as the released guide's own fill.sh prints them over the translation caa599eee1183df2… (all of the seat's roots in one cut). By AI agents, Wed Nov 11 2026. No macro, syntax, notation, axiom, sorry.
-/
import Derived.Test.YthnmoiilaaoooaaChecked
import GoSem.Claim
import GoSem.ClaimJoined
import GoSem.ClaimMapViews
import Derived.JoinedTies
import Derived.KernelRfl
namespace Go.Proofs.Ythnmoiilaaoooaa
/- THE CELL 'sum', in the pinned program and in every row, IS THE sha256 OF THE DUMP (.gsa) THAT YthnmoiilaaoooaaProg.lean LOADS. Nothing in Lean hashes anything: it is a label: what it is worth is what the hold of that sum in a sandbox is worth. -/
noncomputable def Try.pinned : Pinned := { name := "ythnmoiilaaoooaa", sum := "caa599eee1183df2f3b06b3a7be9375a9f17880926ffcb77f46d86ef7fdfcb1b", checked := Try.checked }
namespace Rows
def none {H : Type} : Left H := { results := [], args := [] }

/-- 'postelaw19.StateErrors': WHATEVER THE INPUT: true; the input reads as it did. -/
def stateErrorsSpec : ChangeSpec := { name := "stateErrors", fn := fun _ => fun
  | [d] => { results := [.lit (.bool true)], args := [d] }
  | _ => none }
def stateErrorsRow : OpenClaim := { program := "ythnmoiilaaoooaa", sum := "caa599eee1183df2f3b06b3a7be9375a9f17880926ffcb77f46d86ef7fdfcb1b", func := "poste/postelaw19.StateErrors", spec := "stateErrors", inPlace := ["slices.overlaps[poste/api.Object]", "slices.overlaps[poste/api.Row]", "slices.overlaps[poste/api.Msg]"], unfollowed := true, recurses := true, plainKeys := false, apart := false }
def StateErrorsSaid : Prop := stateErrorsRow.holds Try.pinned (OpenSpec.ofChange stateErrorsSpec)

/-- ITS FALSE NEIGHBOUR: 'it returns false'. Refute it at one input. -/
def stateErrorsWrong : ChangeSpec := { name := "stateErrors", fn := fun _ => fun
  | [d] => { results := [.lit (.bool false)], args := [d] }
  | _ => none }
def StateErrorsWrongFalsely : Prop := stateErrorsRow.holds Try.pinned (OpenSpec.ofChange stateErrorsWrong)

/-- 'postelaw19.StateMakes': WHATEVER THE INPUT: true; the input reads as it did. -/
def stateMakesSpec : ChangeSpec := { name := "stateMakes", fn := fun _ => fun
  | [d] => { results := [.lit (.bool true)], args := [d] }
  | _ => none }
def stateMakesRow : OpenClaim := { program := "ythnmoiilaaoooaa", sum := "caa599eee1183df2f3b06b3a7be9375a9f17880926ffcb77f46d86ef7fdfcb1b", func := "poste/postelaw19.StateMakes", spec := "stateMakes", inPlace := ["slices.overlaps[poste/api.Object]", "slices.overlaps[poste/api.Row]", "slices.overlaps[poste/api.Msg]"], unfollowed := true, recurses := true, plainKeys := false, apart := false }
def StateMakesSaid : Prop := stateMakesRow.holds Try.pinned (OpenSpec.ofChange stateMakesSpec)

/-- ITS FALSE NEIGHBOUR: 'it returns false'. Refute it at one input. -/
def stateMakesWrong : ChangeSpec := { name := "stateMakes", fn := fun _ => fun
  | [d] => { results := [.lit (.bool false)], args := [d] }
  | _ => none }
def StateMakesWrongFalsely : Prop := stateMakesRow.holds Try.pinned (OpenSpec.ofChange stateMakesWrong)

/-- 'postelaw19.StateFrees': WHATEVER THE INPUT: true; the input reads as it did. -/
def stateFreesSpec : ChangeSpec := { name := "stateFrees", fn := fun _ => fun
  | [d] => { results := [.lit (.bool true)], args := [d] }
  | _ => none }
def stateFreesRow : OpenClaim := { program := "ythnmoiilaaoooaa", sum := "caa599eee1183df2f3b06b3a7be9375a9f17880926ffcb77f46d86ef7fdfcb1b", func := "poste/postelaw19.StateFrees", spec := "stateFrees", inPlace := ["slices.overlaps[poste/api.Object]", "slices.overlaps[poste/api.Row]", "slices.overlaps[poste/api.Msg]"], unfollowed := true, recurses := true, plainKeys := false, apart := false }
def StateFreesSaid : Prop := stateFreesRow.holds Try.pinned (OpenSpec.ofChange stateFreesSpec)

/-- ITS FALSE NEIGHBOUR: 'it returns false'. Refute it at one input. -/
def stateFreesWrong : ChangeSpec := { name := "stateFrees", fn := fun _ => fun
  | [d] => { results := [.lit (.bool false)], args := [d] }
  | _ => none }
def StateFreesWrongFalsely : Prop := stateFreesRow.holds Try.pinned (OpenSpec.ofChange stateFreesWrong)

/-- 'postelaw26.ModelBack': WHATEVER THE INPUT: true; the input reads as it did. -/
def modelBackSpec : ChangeSpec := { name := "modelBack", fn := fun _ => fun
  | [d1, d2, d3] => { results := [.lit (.bool true)], args := [d1, d2, d3] }
  | _ => none }
def modelBackRow : OpenClaim := { program := "ythnmoiilaaoooaa", sum := "caa599eee1183df2f3b06b3a7be9375a9f17880926ffcb77f46d86ef7fdfcb1b", func := "poste/postelaw26.ModelBack", spec := "modelBack", inPlace := ["slices.overlaps[poste/api.Row]", "slices.overlaps[poste/api.Object]", "slices.overlaps[poste/api.Msg]"], unfollowed := true, recurses := true, plainKeys := false, apart := false }
def ModelBackSaid : Prop := modelBackRow.holds Try.pinned (OpenSpec.ofChange modelBackSpec)

/-- ITS FALSE NEIGHBOUR: 'it returns false'. Refute it at one input. -/
def modelBackWrong : ChangeSpec := { name := "modelBack", fn := fun _ => fun
  | [d1, d2, d3] => { results := [.lit (.bool false)], args := [d1, d2, d3] }
  | _ => none }
def ModelBackWrongFalsely : Prop := modelBackRow.holds Try.pinned (OpenSpec.ofChange modelBackWrong)

/- THE SECOND FORM. 'bulk': how many values and letters a reading holds, each counted each time it is reached (what is shared counts as often as it is met; a slice's spare places count too). A statement '..UptoSaid' is the law's where the arguments, and the package variables that the reading takes, are together of bulk at most 1048576: NARROWER than '..Said'. Prove '..Said' where nothing that the law and all that it calls make is longer than what came in: it says more and counts as full. Else prove '..UptoSaid'. A law counts once. -/
mutual
def uptoBulk {H : Type} : DataW H → Nat
  | .lit (.string bytes) => bytes.length + 1
  | .lit _ => 1
  | .nil => 1
  | .ptr d => uptoBulk d + 1
  | .slice elems spare => uptoBulkAll elems + uptoBulkAll spare + 1
  | .agg parts => uptoBulkAll parts + 1
  | .iface _ d => uptoBulk d + 1
  | .map entries => uptoBulkEntries entries + 1
  | .held _ => 1
def uptoBulkAll {H : Type} : List (DataW H) → Nat
  | [] => 0
  | d :: r => uptoBulk d + uptoBulkAll r
def uptoBulkEntries {H : Type} : List (Lit × DataW H) → Nat
  | [] => 0
  | x :: r => uptoBulkEntry x + uptoBulkEntries r
def uptoBulkEntry {H : Type} : Lit × DataW H → Nat
  | (.string bytes, d) => bytes.length + uptoBulk d + 1
  | (_, d) => uptoBulk d + 1
 end
def uptoSmall : (H : Type) → List (DataW H) → Bool := fun _ ds => decide (uptoBulkAll ds ≤ 1048576)
def OpenSpec.upto (s : _root_.Go.ChangeSpec) : _root_.Go.OpenSpec := { _root_.Go.OpenSpec.ofChange s with cond := some uptoSmall }

/-- 'postelaw19.StateErrors', WHERE WHAT IT READS IS OF BULK AT MOST 1048576: true; the input reads as it did. -/
def stateErrorsUptoRow : OpenClaim := { program := "ythnmoiilaaoooaa", sum := "caa599eee1183df2f3b06b3a7be9375a9f17880926ffcb77f46d86ef7fdfcb1b", func := "poste/postelaw19.StateErrors", spec := "stateErrors", inPlace := ["slices.overlaps[poste/api.Object]", "slices.overlaps[poste/api.Row]", "slices.overlaps[poste/api.Msg]"], unfollowed := true, recurses := true, plainKeys := false, apart := false, narrowed := true }
def StateErrorsUptoSaid : Prop := stateErrorsUptoRow.holds Try.pinned (OpenSpec.upto stateErrorsSpec)

/-- 'postelaw19.StateMakes', WHERE WHAT IT READS IS OF BULK AT MOST 1048576: true; the input reads as it did. -/
def stateMakesUptoRow : OpenClaim := { program := "ythnmoiilaaoooaa", sum := "caa599eee1183df2f3b06b3a7be9375a9f17880926ffcb77f46d86ef7fdfcb1b", func := "poste/postelaw19.StateMakes", spec := "stateMakes", inPlace := ["slices.overlaps[poste/api.Object]", "slices.overlaps[poste/api.Row]", "slices.overlaps[poste/api.Msg]"], unfollowed := true, recurses := true, plainKeys := false, apart := false, narrowed := true }
def StateMakesUptoSaid : Prop := stateMakesUptoRow.holds Try.pinned (OpenSpec.upto stateMakesSpec)

/-- 'postelaw19.StateFrees', WHERE WHAT IT READS IS OF BULK AT MOST 1048576: true; the input reads as it did. -/
def stateFreesUptoRow : OpenClaim := { program := "ythnmoiilaaoooaa", sum := "caa599eee1183df2f3b06b3a7be9375a9f17880926ffcb77f46d86ef7fdfcb1b", func := "poste/postelaw19.StateFrees", spec := "stateFrees", inPlace := ["slices.overlaps[poste/api.Object]", "slices.overlaps[poste/api.Row]", "slices.overlaps[poste/api.Msg]"], unfollowed := true, recurses := true, plainKeys := false, apart := false, narrowed := true }
def StateFreesUptoSaid : Prop := stateFreesUptoRow.holds Try.pinned (OpenSpec.upto stateFreesSpec)

/-- 'postelaw26.ModelBack', WHERE WHAT IT READS IS OF BULK AT MOST 1048576: true; the input reads as it did. -/
def modelBackUptoRow : OpenClaim := { program := "ythnmoiilaaoooaa", sum := "caa599eee1183df2f3b06b3a7be9375a9f17880926ffcb77f46d86ef7fdfcb1b", func := "poste/postelaw26.ModelBack", spec := "modelBack", inPlace := ["slices.overlaps[poste/api.Row]", "slices.overlaps[poste/api.Object]", "slices.overlaps[poste/api.Msg]"], unfollowed := true, recurses := true, plainKeys := false, apart := false, narrowed := true }
def ModelBackUptoSaid : Prop := modelBackUptoRow.holds Try.pinned (OpenSpec.upto modelBackSpec)

end Rows
end Go.Proofs.Ythnmoiilaaoooaa
