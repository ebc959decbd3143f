/-
  No cell of these rows narrows 'for every input' (looked for: loops, veiled, ifaces, maps, wideKeys, modest, calm, conditions, laid).
  DERIVED. THE GIVEN ROWS OF THIS SEAT. 2 by the template 'for every input the law returns true; each argument reads behind the call as it read before'; 0 by the template 'total and deterministic' (their statements: YthnmoiilaaoooaaGreatTotals.lean).
  GIVEN WITH THE SEED: the statements are not yours to turn. If you find one false, say at which input.
  Laid BY PROGRAM, IN A SANDBOX (cutbox-rows.mjs): the forced cells as the released guide's own fill.sh prints them over the translation 61eb290f31331126… (all of the seat's roots in one cut). By AI agents, Wed Nov 11 2026. No macro, syntax, notation, axiom, sorry.
-/
import Derived.Test.YthnmoiilaaoooaaGreatChecked
import GoSem.Claim
import GoSem.ClaimJoined
import GoSem.ClaimMapViews
import Derived.JoinedTies
import Derived.KernelRfl
namespace Go.Proofs.YthnmoiilaaoooaaGreat
/- THE CELL 'sum', in the pinned program and in every row, IS THE sha256 OF THE DUMP (.gsa) THAT YthnmoiilaaoooaaGreatProg.lean LOADS. Nothing in Lean hashes anything: it is a label: what it is worth is what the hold of that sum in a sandbox is worth. -/
noncomputable def Tryz.pinned : Pinned := { name := "ythnmoiilaaoooaagreat", sum := "61eb290f313311263533692f134f2841ad072b71185c3cd5ed4a070e16f7228a", checked := Tryz.checked }
namespace Rows
def none {H : Type} : Left H := { results := [], args := [] }

/-- 'postelaw26.ModelReads': WHATEVER THE INPUT: true; the input reads as it did. -/
def modelReadsSpec : ChangeSpec := { name := "modelReads", fn := fun _ => fun
  | [d1, d2, d3, d4, d5] => { results := [.lit (.bool true)], args := [d1, d2, d3, d4, d5] }
  | _ => none }
def modelReadsRow : OpenClaim := { program := "ythnmoiilaaoooaagreat", sum := "61eb290f313311263533692f134f2841ad072b71185c3cd5ed4a070e16f7228a", func := "poste/postelaw26.ModelReads", spec := "modelReads", inPlace := ["slices.overlaps[poste/api.Row]", "slices.overlaps[poste/api.Object]", "slices.overlaps[poste/api.Msg]"], unfollowed := true, recurses := true, plainKeys := false, apart := false }
def ModelReadsSaid : Prop := modelReadsRow.holds Tryz.pinned (OpenSpec.ofChange modelReadsSpec)

/-- ITS FALSE NEIGHBOUR: 'it returns false'. Refute it at one input. -/
def modelReadsWrong : ChangeSpec := { name := "modelReads", fn := fun _ => fun
  | [d1, d2, d3, d4, d5] => { results := [.lit (.bool false)], args := [d1, d2, d3, d4, d5] }
  | _ => none }
def ModelReadsWrongFalsely : Prop := modelReadsRow.holds Tryz.pinned (OpenSpec.ofChange modelReadsWrong)

/-- 'postelaw26.ModelLost': WHATEVER THE INPUT: true; the input reads as it did. -/
def modelLostSpec : ChangeSpec := { name := "modelLost", fn := fun _ => fun
  | [d1, d2, d3, d4] => { results := [.lit (.bool true)], args := [d1, d2, d3, d4] }
  | _ => none }
def modelLostRow : OpenClaim := { program := "ythnmoiilaaoooaagreat", sum := "61eb290f313311263533692f134f2841ad072b71185c3cd5ed4a070e16f7228a", func := "poste/postelaw26.ModelLost", spec := "modelLost", inPlace := ["slices.overlaps[poste/api.Row]", "slices.overlaps[poste/api.Object]", "slices.overlaps[poste/api.Msg]"], unfollowed := true, recurses := true, plainKeys := false, apart := false }
def ModelLostSaid : Prop := modelLostRow.holds Tryz.pinned (OpenSpec.ofChange modelLostSpec)

/-- ITS FALSE NEIGHBOUR: 'it returns false'. Refute it at one input. -/
def modelLostWrong : ChangeSpec := { name := "modelLost", fn := fun _ => fun
  | [d1, d2, d3, d4] => { results := [.lit (.bool false)], args := [d1, d2, d3, d4] }
  | _ => none }
def ModelLostWrongFalsely : Prop := modelLostRow.holds Tryz.pinned (OpenSpec.ofChange modelLostWrong)

/- THE SECOND FORM. 'bulk': how many values and letters a reading holds, each counted each time it is reached (what is shared counts as often as it is met; a slice's spare places count too). A statement '..UptoSaid' is the law's where the arguments, and the package variables that the reading takes, are together of bulk at most 1048576: NARROWER than '..Said'. Prove '..Said' where nothing that the law and all that it calls make is longer than what came in: it says more and counts as full. Else prove '..UptoSaid'. A law counts once. -/
mutual
def uptoBulk {H : Type} : DataW H → Nat
  | .lit (.string bytes) => bytes.length + 1
  | .lit _ => 1
  | .nil => 1
  | .ptr d => uptoBulk d + 1
  | .slice elems spare => uptoBulkAll elems + uptoBulkAll spare + 1
  | .agg parts => uptoBulkAll parts + 1
  | .iface _ d => uptoBulk d + 1
  | .map entries => uptoBulkEntries entries + 1
  | .held _ => 1
def uptoBulkAll {H : Type} : List (DataW H) → Nat
  | [] => 0
  | d :: r => uptoBulk d + uptoBulkAll r
def uptoBulkEntries {H : Type} : List (Lit × DataW H) → Nat
  | [] => 0
  | x :: r => uptoBulkEntry x + uptoBulkEntries r
def uptoBulkEntry {H : Type} : Lit × DataW H → Nat
  | (.string bytes, d) => bytes.length + uptoBulk d + 1
  | (_, d) => uptoBulk d + 1
 end
def uptoSmall : (H : Type) → List (DataW H) → Bool := fun _ ds => decide (uptoBulkAll ds ≤ 1048576)
def OpenSpec.upto (s : _root_.Go.ChangeSpec) : _root_.Go.OpenSpec := { _root_.Go.OpenSpec.ofChange s with cond := some uptoSmall }

/-- 'postelaw26.ModelReads', WHERE WHAT IT READS IS OF BULK AT MOST 1048576: true; the input reads as it did. -/
def modelReadsUptoRow : OpenClaim := { program := "ythnmoiilaaoooaagreat", sum := "61eb290f313311263533692f134f2841ad072b71185c3cd5ed4a070e16f7228a", func := "poste/postelaw26.ModelReads", spec := "modelReads", inPlace := ["slices.overlaps[poste/api.Row]", "slices.overlaps[poste/api.Object]", "slices.overlaps[poste/api.Msg]"], unfollowed := true, recurses := true, plainKeys := false, apart := false, narrowed := true }
def ModelReadsUptoSaid : Prop := modelReadsUptoRow.holds Tryz.pinned (OpenSpec.upto modelReadsSpec)

/-- 'postelaw26.ModelLost', WHERE WHAT IT READS IS OF BULK AT MOST 1048576: true; the input reads as it did. -/
def modelLostUptoRow : OpenClaim := { program := "ythnmoiilaaoooaagreat", sum := "61eb290f313311263533692f134f2841ad072b71185c3cd5ed4a070e16f7228a", func := "poste/postelaw26.ModelLost", spec := "modelLost", inPlace := ["slices.overlaps[poste/api.Row]", "slices.overlaps[poste/api.Object]", "slices.overlaps[poste/api.Msg]"], unfollowed := true, recurses := true, plainKeys := false, apart := false, narrowed := true }
def ModelLostUptoSaid : Prop := modelLostUptoRow.holds Tryz.pinned (OpenSpec.upto modelLostSpec)

end Rows
end Go.Proofs.YthnmoiilaaoooaaGreat
