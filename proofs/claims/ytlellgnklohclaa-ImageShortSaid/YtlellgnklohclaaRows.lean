/-
  No cell of these rows narrows 'for every input' (looked for: loops, veiled, ifaces, maps, wideKeys, modest, calm, conditions, laid).
  DERIVED. THE GIVEN ROWS OF THIS SEAT. 13 by the template 'for every input the law returns true; each argument reads behind the call as it read before'; 0 by the template 'total and deterministic' (their statements: YtlellgnklohclaaTotals.lean).
  GIVEN WITH THE SEED: the statements are not yours to turn. If you find one false, say at which input.
  Laid BY PROGRAM, IN A SANDBOX (cutbox-rows.mjs): the forced cells as the released guide's own fill.sh prints them over the translation 3fbf51c269d3cbc2… (all of the seat's roots in one cut). By AI agents, Wed Nov 11 2026. No macro, syntax, notation, axiom, sorry.
-/
import Derived.Test.YtlellgnklohclaaChecked
import GoSem.Claim
import GoSem.ClaimJoined
import GoSem.ClaimMapViews
import Derived.JoinedTies
import Derived.KernelRfl
namespace Go.Proofs.Ytlellgnklohclaa
/- THE CELL 'sum', in the pinned program and in every row, IS THE sha256 OF THE DUMP (.gsa) THAT YtlellgnklohclaaProg.lean LOADS. Nothing in Lean hashes anything: it is a label: what it is worth is what the hold of that sum in a sandbox is worth. -/
noncomputable def Try.pinned : Pinned := { name := "ytlellgnklohclaa", sum := "3fbf51c269d3cbc28e030b58402135a9ff788ea20622d66c41f501d1d70c4545", checked := Try.checked }
namespace Rows
def none {H : Type} : Left H := { results := [], args := [] }

/-- 'postelaw14.MessageLimits': WHATEVER THE INPUT: true; the input reads as it did. -/
def messageLimitsSpec : ChangeSpec := { name := "messageLimits", fn := fun _ => fun
  | [d1, d2] => { results := [.lit (.bool true)], args := [d1, d2] }
  | _ => none }
def messageLimitsRow : OpenClaim := { program := "ytlellgnklohclaa", sum := "3fbf51c269d3cbc28e030b58402135a9ff788ea20622d66c41f501d1d70c4545", func := "poste/postelaw14.MessageLimits", spec := "messageLimits", apart := false }
def MessageLimitsSaid : Prop := messageLimitsRow.holds Try.pinned (OpenSpec.ofChange messageLimitsSpec)

/-- ITS FALSE NEIGHBOUR: 'it returns false'. Refute it at one input. -/
def messageLimitsWrong : ChangeSpec := { name := "messageLimits", fn := fun _ => fun
  | [d1, d2] => { results := [.lit (.bool false)], args := [d1, d2] }
  | _ => none }
def MessageLimitsWrongFalsely : Prop := messageLimitsRow.holds Try.pinned (OpenSpec.ofChange messageLimitsWrong)

/-- 'postelaw14.MessageTells': WHATEVER THE INPUT: true; the input reads as it did. -/
def messageTellsSpec : ChangeSpec := { name := "messageTells", fn := fun _ => fun
  | [d1, d2] => { results := [.lit (.bool true)], args := [d1, d2] }
  | _ => none }
def messageTellsRow : OpenClaim := { program := "ytlellgnklohclaa", sum := "3fbf51c269d3cbc28e030b58402135a9ff788ea20622d66c41f501d1d70c4545", func := "poste/postelaw14.MessageTells", spec := "messageTells", apart := false }
def MessageTellsSaid : Prop := messageTellsRow.holds Try.pinned (OpenSpec.ofChange messageTellsSpec)

/-- ITS FALSE NEIGHBOUR: 'it returns false'. Refute it at one input. -/
def messageTellsWrong : ChangeSpec := { name := "messageTells", fn := fun _ => fun
  | [d1, d2] => { results := [.lit (.bool false)], args := [d1, d2] }
  | _ => none }
def MessageTellsWrongFalsely : Prop := messageTellsRow.holds Try.pinned (OpenSpec.ofChange messageTellsWrong)

/-- 'postelaw2.BytesLong': WHATEVER THE INPUT: true; the input reads as it did. -/
def bytesLongSpec : ChangeSpec := { name := "bytesLong", fn := fun _ => fun
  | [d] => { results := [.lit (.bool true)], args := [d] }
  | _ => none }
def bytesLongRow : OpenClaim := { program := "ytlellgnklohclaa", sum := "3fbf51c269d3cbc28e030b58402135a9ff788ea20622d66c41f501d1d70c4545", func := "poste/postelaw2.BytesLong", spec := "bytesLong", apart := false }
def BytesLongSaid : Prop := bytesLongRow.holds Try.pinned (OpenSpec.ofChange bytesLongSpec)

/-- ITS FALSE NEIGHBOUR: 'it returns false'. Refute it at one input. -/
def bytesLongWrong : ChangeSpec := { name := "bytesLong", fn := fun _ => fun
  | [d] => { results := [.lit (.bool false)], args := [d] }
  | _ => none }
def BytesLongWrongFalsely : Prop := bytesLongRow.holds Try.pinned (OpenSpec.ofChange bytesLongWrong)

/-- 'postelaw2.BytesRead': WHATEVER THE INPUT: true; the input reads as it did. -/
def bytesReadSpec : ChangeSpec := { name := "bytesRead", fn := fun _ => fun
  | [d1, d2] => { results := [.lit (.bool true)], args := [d1, d2] }
  | _ => none }
def bytesReadRow : OpenClaim := { program := "ytlellgnklohclaa", sum := "3fbf51c269d3cbc28e030b58402135a9ff788ea20622d66c41f501d1d70c4545", func := "poste/postelaw2.BytesRead", spec := "bytesRead", apart := false }
def BytesReadSaid : Prop := bytesReadRow.holds Try.pinned (OpenSpec.ofChange bytesReadSpec)

/-- ITS FALSE NEIGHBOUR: 'it returns false'. Refute it at one input. -/
def bytesReadWrong : ChangeSpec := { name := "bytesRead", fn := fun _ => fun
  | [d1, d2] => { results := [.lit (.bool false)], args := [d1, d2] }
  | _ => none }
def BytesReadWrongFalsely : Prop := bytesReadRow.holds Try.pinned (OpenSpec.ofChange bytesReadWrong)

/-- 'postelaw2.BytesWrite': WHATEVER THE INPUT: true; the input reads as it did. -/
def bytesWriteSpec : ChangeSpec := { name := "bytesWrite", fn := fun _ => fun
  | [d] => { results := [.lit (.bool true)], args := [d] }
  | _ => none }
def bytesWriteRow : OpenClaim := { program := "ytlellgnklohclaa", sum := "3fbf51c269d3cbc28e030b58402135a9ff788ea20622d66c41f501d1d70c4545", func := "poste/postelaw2.BytesWrite", spec := "bytesWrite", apart := false }
def BytesWriteSaid : Prop := bytesWriteRow.holds Try.pinned (OpenSpec.ofChange bytesWriteSpec)

/-- ITS FALSE NEIGHBOUR: 'it returns false'. Refute it at one input. -/
def bytesWriteWrong : ChangeSpec := { name := "bytesWrite", fn := fun _ => fun
  | [d] => { results := [.lit (.bool false)], args := [d] }
  | _ => none }
def BytesWriteWrongFalsely : Prop := bytesWriteRow.holds Try.pinned (OpenSpec.ofChange bytesWriteWrong)

/-- 'postelaw2.BytesShort': WHATEVER THE INPUT: true; the input reads as it did. -/
def bytesShortSpec : ChangeSpec := { name := "bytesShort", fn := fun _ => fun
  | [d1, d2, d3, d4] => { results := [.lit (.bool true)], args := [d1, d2, d3, d4] }
  | _ => none }
def bytesShortRow : OpenClaim := { program := "ytlellgnklohclaa", sum := "3fbf51c269d3cbc28e030b58402135a9ff788ea20622d66c41f501d1d70c4545", func := "poste/postelaw2.BytesShort", spec := "bytesShort", apart := false }
def BytesShortSaid : Prop := bytesShortRow.holds Try.pinned (OpenSpec.ofChange bytesShortSpec)

/-- ITS FALSE NEIGHBOUR: 'it returns false'. Refute it at one input. -/
def bytesShortWrong : ChangeSpec := { name := "bytesShort", fn := fun _ => fun
  | [d1, d2, d3, d4] => { results := [.lit (.bool false)], args := [d1, d2, d3, d4] }
  | _ => none }
def BytesShortWrongFalsely : Prop := bytesShortRow.holds Try.pinned (OpenSpec.ofChange bytesShortWrong)

/-- 'postelaw14.MessageReads': WHATEVER THE INPUT: true; the input reads as it did. -/
def messageReadsSpec : ChangeSpec := { name := "messageReads", fn := fun _ => fun
  | [d] => { results := [.lit (.bool true)], args := [d] }
  | _ => none }
def messageReadsRow : OpenClaim := { program := "ytlellgnklohclaa", sum := "3fbf51c269d3cbc28e030b58402135a9ff788ea20622d66c41f501d1d70c4545", func := "poste/postelaw14.MessageReads", spec := "messageReads", apart := false }
def MessageReadsSaid : Prop := messageReadsRow.holds Try.pinned (OpenSpec.ofChange messageReadsSpec)

/-- ITS FALSE NEIGHBOUR: 'it returns false'. Refute it at one input. -/
def messageReadsWrong : ChangeSpec := { name := "messageReads", fn := fun _ => fun
  | [d] => { results := [.lit (.bool false)], args := [d] }
  | _ => none }
def MessageReadsWrongFalsely : Prop := messageReadsRow.holds Try.pinned (OpenSpec.ofChange messageReadsWrong)

/-- 'postelaw14.MessageBack': WHATEVER THE INPUT: true; the input reads as it did. -/
def messageBackSpec : ChangeSpec := { name := "messageBack", fn := fun _ => fun
  | [d] => { results := [.lit (.bool true)], args := [d] }
  | _ => none }
def messageBackRow : OpenClaim := { program := "ytlellgnklohclaa", sum := "3fbf51c269d3cbc28e030b58402135a9ff788ea20622d66c41f501d1d70c4545", func := "poste/postelaw14.MessageBack", spec := "messageBack", apart := false }
def MessageBackSaid : Prop := messageBackRow.holds Try.pinned (OpenSpec.ofChange messageBackSpec)

/-- ITS FALSE NEIGHBOUR: 'it returns false'. Refute it at one input. -/
def messageBackWrong : ChangeSpec := { name := "messageBack", fn := fun _ => fun
  | [d] => { results := [.lit (.bool false)], args := [d] }
  | _ => none }
def MessageBackWrongFalsely : Prop := messageBackRow.holds Try.pinned (OpenSpec.ofChange messageBackWrong)

/-- 'postelaw18.EffectTells': WHATEVER THE INPUT: true; the input reads as it did. -/
def effectTellsSpec : ChangeSpec := { name := "effectTells", fn := fun _ => fun
  | [d] => { results := [.lit (.bool true)], args := [d] }
  | _ => none }
def effectTellsRow : OpenClaim := { program := "ytlellgnklohclaa", sum := "3fbf51c269d3cbc28e030b58402135a9ff788ea20622d66c41f501d1d70c4545", func := "poste/postelaw18.EffectTells", spec := "effectTells", apart := false }
def EffectTellsSaid : Prop := effectTellsRow.holds Try.pinned (OpenSpec.ofChange effectTellsSpec)

/-- ITS FALSE NEIGHBOUR: 'it returns false'. Refute it at one input. -/
def effectTellsWrong : ChangeSpec := { name := "effectTells", fn := fun _ => fun
  | [d] => { results := [.lit (.bool false)], args := [d] }
  | _ => none }
def EffectTellsWrongFalsely : Prop := effectTellsRow.holds Try.pinned (OpenSpec.ofChange effectTellsWrong)

/-- 'postelaw18.EffectReads': WHATEVER THE INPUT: true; the input reads as it did. -/
def effectReadsSpec : ChangeSpec := { name := "effectReads", fn := fun _ => fun
  | [d] => { results := [.lit (.bool true)], args := [d] }
  | _ => none }
def effectReadsRow : OpenClaim := { program := "ytlellgnklohclaa", sum := "3fbf51c269d3cbc28e030b58402135a9ff788ea20622d66c41f501d1d70c4545", func := "poste/postelaw18.EffectReads", spec := "effectReads", apart := false }
def EffectReadsSaid : Prop := effectReadsRow.holds Try.pinned (OpenSpec.ofChange effectReadsSpec)

/-- ITS FALSE NEIGHBOUR: 'it returns false'. Refute it at one input. -/
def effectReadsWrong : ChangeSpec := { name := "effectReads", fn := fun _ => fun
  | [d] => { results := [.lit (.bool false)], args := [d] }
  | _ => none }
def EffectReadsWrongFalsely : Prop := effectReadsRow.holds Try.pinned (OpenSpec.ofChange effectReadsWrong)

/-- 'postelaw18.EffectShort': WHATEVER THE INPUT: true; the input reads as it did. -/
def effectShortSpec : ChangeSpec := { name := "effectShort", fn := fun _ => fun
  | [d1, d2] => { results := [.lit (.bool true)], args := [d1, d2] }
  | _ => none }
def effectShortRow : OpenClaim := { program := "ytlellgnklohclaa", sum := "3fbf51c269d3cbc28e030b58402135a9ff788ea20622d66c41f501d1d70c4545", func := "poste/postelaw18.EffectShort", spec := "effectShort", apart := false }
def EffectShortSaid : Prop := effectShortRow.holds Try.pinned (OpenSpec.ofChange effectShortSpec)

/-- ITS FALSE NEIGHBOUR: 'it returns false'. Refute it at one input. -/
def effectShortWrong : ChangeSpec := { name := "effectShort", fn := fun _ => fun
  | [d1, d2] => { results := [.lit (.bool false)], args := [d1, d2] }
  | _ => none }
def EffectShortWrongFalsely : Prop := effectShortRow.holds Try.pinned (OpenSpec.ofChange effectShortWrong)

/-- 'postelaw20.ImageBytes': WHATEVER THE INPUT: true; the input reads as it did. -/
def imageBytesSpec : ChangeSpec := { name := "imageBytes", fn := fun _ => fun
  | [d] => { results := [.lit (.bool true)], args := [d] }
  | _ => none }
def imageBytesRow : OpenClaim := { program := "ytlellgnklohclaa", sum := "3fbf51c269d3cbc28e030b58402135a9ff788ea20622d66c41f501d1d70c4545", func := "poste/postelaw20.ImageBytes", spec := "imageBytes", unfollowed := true, recurses := true, apart := false }
def ImageBytesSaid : Prop := imageBytesRow.holds Try.pinned (OpenSpec.ofChange imageBytesSpec)

/-- ITS FALSE NEIGHBOUR: 'it returns false'. Refute it at one input. -/
def imageBytesWrong : ChangeSpec := { name := "imageBytes", fn := fun _ => fun
  | [d] => { results := [.lit (.bool false)], args := [d] }
  | _ => none }
def ImageBytesWrongFalsely : Prop := imageBytesRow.holds Try.pinned (OpenSpec.ofChange imageBytesWrong)

/-- 'postelaw20.ImageShort': WHATEVER THE INPUT: true; the input reads as it did. -/
def imageShortSpec : ChangeSpec := { name := "imageShort", fn := fun _ => fun
  | [d1, d2] => { results := [.lit (.bool true)], args := [d1, d2] }
  | _ => none }
def imageShortRow : OpenClaim := { program := "ytlellgnklohclaa", sum := "3fbf51c269d3cbc28e030b58402135a9ff788ea20622d66c41f501d1d70c4545", func := "poste/postelaw20.ImageShort", spec := "imageShort", unfollowed := true, recurses := true, apart := false }
def ImageShortSaid : Prop := imageShortRow.holds Try.pinned (OpenSpec.ofChange imageShortSpec)

/-- ITS FALSE NEIGHBOUR: 'it returns false'. Refute it at one input. -/
def imageShortWrong : ChangeSpec := { name := "imageShort", fn := fun _ => fun
  | [d1, d2] => { results := [.lit (.bool false)], args := [d1, d2] }
  | _ => none }
def ImageShortWrongFalsely : Prop := imageShortRow.holds Try.pinned (OpenSpec.ofChange imageShortWrong)

/- THE SECOND FORM. 'bulk': how many values and letters a reading holds, each counted each time it is reached (what is shared counts as often as it is met; a slice's spare places count too). A statement '..UptoSaid' is the law's where the arguments, and the package variables that the reading takes, are together of bulk at most 1048576: NARROWER than '..Said'. Prove '..Said' where nothing that the law and all that it calls make is longer than what came in: it says more and counts as full. Else prove '..UptoSaid'. A law counts once. -/
mutual
def uptoBulk {H : Type} : DataW H → Nat
  | .lit (.string bytes) => bytes.length + 1
  | .lit _ => 1
  | .nil => 1
  | .ptr d => uptoBulk d + 1
  | .slice elems spare => uptoBulkAll elems + uptoBulkAll spare + 1
  | .agg parts => uptoBulkAll parts + 1
  | .iface _ d => uptoBulk d + 1
  | .map entries => uptoBulkEntries entries + 1
  | .held _ => 1
def uptoBulkAll {H : Type} : List (DataW H) → Nat
  | [] => 0
  | d :: r => uptoBulk d + uptoBulkAll r
def uptoBulkEntries {H : Type} : List (Lit × DataW H) → Nat
  | [] => 0
  | x :: r => uptoBulkEntry x + uptoBulkEntries r
def uptoBulkEntry {H : Type} : Lit × DataW H → Nat
  | (.string bytes, d) => bytes.length + uptoBulk d + 1
  | (_, d) => uptoBulk d + 1
 end
def uptoSmall : (H : Type) → List (DataW H) → Bool := fun _ ds => decide (uptoBulkAll ds ≤ 1048576)
def OpenSpec.upto (s : _root_.Go.ChangeSpec) : _root_.Go.OpenSpec := { _root_.Go.OpenSpec.ofChange s with cond := some uptoSmall }

/-- 'postelaw14.MessageLimits', WHERE WHAT IT READS IS OF BULK AT MOST 1048576: true; the input reads as it did. -/
def messageLimitsUptoRow : OpenClaim := { program := "ytlellgnklohclaa", sum := "3fbf51c269d3cbc28e030b58402135a9ff788ea20622d66c41f501d1d70c4545", func := "poste/postelaw14.MessageLimits", spec := "messageLimits", apart := false, narrowed := true }
def MessageLimitsUptoSaid : Prop := messageLimitsUptoRow.holds Try.pinned (OpenSpec.upto messageLimitsSpec)

/-- 'postelaw14.MessageTells', WHERE WHAT IT READS IS OF BULK AT MOST 1048576: true; the input reads as it did. -/
def messageTellsUptoRow : OpenClaim := { program := "ytlellgnklohclaa", sum := "3fbf51c269d3cbc28e030b58402135a9ff788ea20622d66c41f501d1d70c4545", func := "poste/postelaw14.MessageTells", spec := "messageTells", apart := false, narrowed := true }
def MessageTellsUptoSaid : Prop := messageTellsUptoRow.holds Try.pinned (OpenSpec.upto messageTellsSpec)

/-- 'postelaw2.BytesLong', WHERE WHAT IT READS IS OF BULK AT MOST 1048576: true; the input reads as it did. -/
def bytesLongUptoRow : OpenClaim := { program := "ytlellgnklohclaa", sum := "3fbf51c269d3cbc28e030b58402135a9ff788ea20622d66c41f501d1d70c4545", func := "poste/postelaw2.BytesLong", spec := "bytesLong", apart := false, narrowed := true }
def BytesLongUptoSaid : Prop := bytesLongUptoRow.holds Try.pinned (OpenSpec.upto bytesLongSpec)

/-- 'postelaw2.BytesRead', WHERE WHAT IT READS IS OF BULK AT MOST 1048576: true; the input reads as it did. -/
def bytesReadUptoRow : OpenClaim := { program := "ytlellgnklohclaa", sum := "3fbf51c269d3cbc28e030b58402135a9ff788ea20622d66c41f501d1d70c4545", func := "poste/postelaw2.BytesRead", spec := "bytesRead", apart := false, narrowed := true }
def BytesReadUptoSaid : Prop := bytesReadUptoRow.holds Try.pinned (OpenSpec.upto bytesReadSpec)

/-- 'postelaw2.BytesWrite', WHERE WHAT IT READS IS OF BULK AT MOST 1048576: true; the input reads as it did. -/
def bytesWriteUptoRow : OpenClaim := { program := "ytlellgnklohclaa", sum := "3fbf51c269d3cbc28e030b58402135a9ff788ea20622d66c41f501d1d70c4545", func := "poste/postelaw2.BytesWrite", spec := "bytesWrite", apart := false, narrowed := true }
def BytesWriteUptoSaid : Prop := bytesWriteUptoRow.holds Try.pinned (OpenSpec.upto bytesWriteSpec)

/-- 'postelaw2.BytesShort', WHERE WHAT IT READS IS OF BULK AT MOST 1048576: true; the input reads as it did. -/
def bytesShortUptoRow : OpenClaim := { program := "ytlellgnklohclaa", sum := "3fbf51c269d3cbc28e030b58402135a9ff788ea20622d66c41f501d1d70c4545", func := "poste/postelaw2.BytesShort", spec := "bytesShort", apart := false, narrowed := true }
def BytesShortUptoSaid : Prop := bytesShortUptoRow.holds Try.pinned (OpenSpec.upto bytesShortSpec)

/-- 'postelaw14.MessageReads', WHERE WHAT IT READS IS OF BULK AT MOST 1048576: true; the input reads as it did. -/
def messageReadsUptoRow : OpenClaim := { program := "ytlellgnklohclaa", sum := "3fbf51c269d3cbc28e030b58402135a9ff788ea20622d66c41f501d1d70c4545", func := "poste/postelaw14.MessageReads", spec := "messageReads", apart := false, narrowed := true }
def MessageReadsUptoSaid : Prop := messageReadsUptoRow.holds Try.pinned (OpenSpec.upto messageReadsSpec)

/-- 'postelaw14.MessageBack', WHERE WHAT IT READS IS OF BULK AT MOST 1048576: true; the input reads as it did. -/
def messageBackUptoRow : OpenClaim := { program := "ytlellgnklohclaa", sum := "3fbf51c269d3cbc28e030b58402135a9ff788ea20622d66c41f501d1d70c4545", func := "poste/postelaw14.MessageBack", spec := "messageBack", apart := false, narrowed := true }
def MessageBackUptoSaid : Prop := messageBackUptoRow.holds Try.pinned (OpenSpec.upto messageBackSpec)

/-- 'postelaw18.EffectTells', WHERE WHAT IT READS IS OF BULK AT MOST 1048576: true; the input reads as it did. -/
def effectTellsUptoRow : OpenClaim := { program := "ytlellgnklohclaa", sum := "3fbf51c269d3cbc28e030b58402135a9ff788ea20622d66c41f501d1d70c4545", func := "poste/postelaw18.EffectTells", spec := "effectTells", apart := false, narrowed := true }
def EffectTellsUptoSaid : Prop := effectTellsUptoRow.holds Try.pinned (OpenSpec.upto effectTellsSpec)

/-- 'postelaw18.EffectReads', WHERE WHAT IT READS IS OF BULK AT MOST 1048576: true; the input reads as it did. -/
def effectReadsUptoRow : OpenClaim := { program := "ytlellgnklohclaa", sum := "3fbf51c269d3cbc28e030b58402135a9ff788ea20622d66c41f501d1d70c4545", func := "poste/postelaw18.EffectReads", spec := "effectReads", apart := false, narrowed := true }
def EffectReadsUptoSaid : Prop := effectReadsUptoRow.holds Try.pinned (OpenSpec.upto effectReadsSpec)

/-- 'postelaw18.EffectShort', WHERE WHAT IT READS IS OF BULK AT MOST 1048576: true; the input reads as it did. -/
def effectShortUptoRow : OpenClaim := { program := "ytlellgnklohclaa", sum := "3fbf51c269d3cbc28e030b58402135a9ff788ea20622d66c41f501d1d70c4545", func := "poste/postelaw18.EffectShort", spec := "effectShort", apart := false, narrowed := true }
def EffectShortUptoSaid : Prop := effectShortUptoRow.holds Try.pinned (OpenSpec.upto effectShortSpec)

/-- 'postelaw20.ImageBytes', WHERE WHAT IT READS IS OF BULK AT MOST 1048576: true; the input reads as it did. -/
def imageBytesUptoRow : OpenClaim := { program := "ytlellgnklohclaa", sum := "3fbf51c269d3cbc28e030b58402135a9ff788ea20622d66c41f501d1d70c4545", func := "poste/postelaw20.ImageBytes", spec := "imageBytes", unfollowed := true, recurses := true, apart := false, narrowed := true }
def ImageBytesUptoSaid : Prop := imageBytesUptoRow.holds Try.pinned (OpenSpec.upto imageBytesSpec)

/-- 'postelaw20.ImageShort', WHERE WHAT IT READS IS OF BULK AT MOST 1048576: true; the input reads as it did. -/
def imageShortUptoRow : OpenClaim := { program := "ytlellgnklohclaa", sum := "3fbf51c269d3cbc28e030b58402135a9ff788ea20622d66c41f501d1d70c4545", func := "poste/postelaw20.ImageShort", spec := "imageShort", unfollowed := true, recurses := true, apart := false, narrowed := true }
def ImageShortUptoSaid : Prop := imageShortUptoRow.holds Try.pinned (OpenSpec.upto imageShortSpec)

end Rows
end Go.Proofs.Ytlellgnklohclaa
