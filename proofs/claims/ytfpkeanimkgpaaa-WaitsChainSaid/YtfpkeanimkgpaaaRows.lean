/-
  No cell of these rows narrows 'for every input' (looked for: loops, veiled, ifaces, maps, wideKeys, modest, calm, conditions, laid).
  DERIVED. THE GIVEN ROWS OF THIS SEAT. 12 by the template 'for every input the law returns true; each argument reads behind the call as it read before'; 0 by the template 'total and deterministic' (their statements: YtfpkeanimkgpaaaTotals.lean).
  GIVEN WITH THE SEED: the statements are not yours to turn. If you find one false, say at which input.
  Laid BY PROGRAM, IN A SANDBOX (cutbox-rows.mjs): the forced cells as the released guide's own fill.sh prints them over the translation 4da921f05e0d6273… (all of the seat's roots in one cut). By AI agents, Wed Nov 11 2026. No macro, syntax, notation, axiom, sorry.
-/
import Derived.Test.YtfpkeanimkgpaaaChecked
import GoSem.Claim
import GoSem.ClaimJoined
import GoSem.ClaimMapViews
import Derived.JoinedTies
import Derived.KernelRfl
namespace Go.Proofs.Ytfpkeanimkgpaaa
/- THE CELL 'sum', in the pinned program and in every row, IS THE sha256 OF THE DUMP (.gsa) THAT YtfpkeanimkgpaaaProg.lean LOADS. Nothing in Lean hashes anything: it is a label: what it is worth is what the hold of that sum in a sandbox is worth. -/
noncomputable def Try.pinned : Pinned := { name := "ytfpkeanimkgpaaa", sum := "4da921f05e0d6273920f8037a26a927bd937798ab97b7a41a61c599de501dc96", checked := Try.checked }
namespace Rows
def none {H : Type} : Left H := { results := [], args := [] }

/-- 'postelaw13.LocksMany': WHATEVER THE INPUT: true; the input reads as it did. -/
def locksManySpec : ChangeSpec := { name := "locksMany", fn := fun _ => fun
  | [d1, d2] => { results := [.lit (.bool true)], args := [d1, d2] }
  | _ => none }
def locksManyRow : OpenClaim := { program := "ytfpkeanimkgpaaa", sum := "4da921f05e0d6273920f8037a26a927bd937798ab97b7a41a61c599de501dc96", func := "poste/postelaw13.LocksMany", spec := "locksMany", inPlace := ["slices.overlaps[poste/locks.entry]", "slices.overlaps[poste/grant.one]"], unfollowed := true, recurses := true, apart := false }
def LocksManySaid : Prop := locksManyRow.holds Try.pinned (OpenSpec.ofChange locksManySpec)

/-- ITS FALSE NEIGHBOUR: 'it returns false'. Refute it at one input. -/
def locksManyWrong : ChangeSpec := { name := "locksMany", fn := fun _ => fun
  | [d1, d2] => { results := [.lit (.bool false)], args := [d1, d2] }
  | _ => none }
def LocksManyWrongFalsely : Prop := locksManyRow.holds Try.pinned (OpenSpec.ofChange locksManyWrong)

/-- 'postelaw12.WaitsTell': WHATEVER THE INPUT: true; the input reads as it did. -/
def waitsTellSpec : ChangeSpec := { name := "waitsTell", fn := fun _ => fun
  | [d1, d2] => { results := [.lit (.bool true)], args := [d1, d2] }
  | _ => none }
def waitsTellRow : OpenClaim := { program := "ytfpkeanimkgpaaa", sum := "4da921f05e0d6273920f8037a26a927bd937798ab97b7a41a61c599de501dc96", func := "poste/postelaw12.WaitsTell", spec := "waitsTell", recurses := true, apart := false }
def WaitsTellSaid : Prop := waitsTellRow.holds Try.pinned (OpenSpec.ofChange waitsTellSpec)

/-- ITS FALSE NEIGHBOUR: 'it returns false'. Refute it at one input. -/
def waitsTellWrong : ChangeSpec := { name := "waitsTell", fn := fun _ => fun
  | [d1, d2] => { results := [.lit (.bool false)], args := [d1, d2] }
  | _ => none }
def WaitsTellWrongFalsely : Prop := waitsTellRow.holds Try.pinned (OpenSpec.ofChange waitsTellWrong)

/-- 'postelaw12.WaitsRing': WHATEVER THE INPUT: true; the input reads as it did. -/
def waitsRingSpec : ChangeSpec := { name := "waitsRing", fn := fun _ => fun
  | [d1, d2, d3, d4] => { results := [.lit (.bool true)], args := [d1, d2, d3, d4] }
  | _ => none }
def waitsRingRow : OpenClaim := { program := "ytfpkeanimkgpaaa", sum := "4da921f05e0d6273920f8037a26a927bd937798ab97b7a41a61c599de501dc96", func := "poste/postelaw12.WaitsRing", spec := "waitsRing", recurses := true, apart := false }
def WaitsRingSaid : Prop := waitsRingRow.holds Try.pinned (OpenSpec.ofChange waitsRingSpec)

/-- ITS FALSE NEIGHBOUR: 'it returns false'. Refute it at one input. -/
def waitsRingWrong : ChangeSpec := { name := "waitsRing", fn := fun _ => fun
  | [d1, d2, d3, d4] => { results := [.lit (.bool false)], args := [d1, d2, d3, d4] }
  | _ => none }
def WaitsRingWrongFalsely : Prop := waitsRingRow.holds Try.pinned (OpenSpec.ofChange waitsRingWrong)

/-- 'postelaw12.WaitsChain': WHATEVER THE INPUT: true; the input reads as it did. -/
def waitsChainSpec : ChangeSpec := { name := "waitsChain", fn := fun _ => fun
  | [d1, d2, d3] => { results := [.lit (.bool true)], args := [d1, d2, d3] }
  | _ => none }
def waitsChainRow : OpenClaim := { program := "ytfpkeanimkgpaaa", sum := "4da921f05e0d6273920f8037a26a927bd937798ab97b7a41a61c599de501dc96", func := "poste/postelaw12.WaitsChain", spec := "waitsChain", recurses := true, apart := false }
def WaitsChainSaid : Prop := waitsChainRow.holds Try.pinned (OpenSpec.ofChange waitsChainSpec)

/-- ITS FALSE NEIGHBOUR: 'it returns false'. Refute it at one input. -/
def waitsChainWrong : ChangeSpec := { name := "waitsChain", fn := fun _ => fun
  | [d1, d2, d3] => { results := [.lit (.bool false)], args := [d1, d2, d3] }
  | _ => none }
def WaitsChainWrongFalsely : Prop := waitsChainRow.holds Try.pinned (OpenSpec.ofChange waitsChainWrong)

/-- 'postelaw13.LocksNames': WHATEVER THE INPUT: true; the input reads as it did. -/
def locksNamesSpec : ChangeSpec := { name := "locksNames", fn := fun _ => fun
  | [d1, d2, d3, d4] => { results := [.lit (.bool true)], args := [d1, d2, d3, d4] }
  | _ => none }
def locksNamesRow : OpenClaim := { program := "ytfpkeanimkgpaaa", sum := "4da921f05e0d6273920f8037a26a927bd937798ab97b7a41a61c599de501dc96", func := "poste/postelaw13.LocksNames", spec := "locksNames", inPlace := ["slices.overlaps[poste/locks.entry]", "slices.overlaps[poste/grant.one]"], unfollowed := true, recurses := true, apart := false }
def LocksNamesSaid : Prop := locksNamesRow.holds Try.pinned (OpenSpec.ofChange locksNamesSpec)

/-- ITS FALSE NEIGHBOUR: 'it returns false'. Refute it at one input. -/
def locksNamesWrong : ChangeSpec := { name := "locksNames", fn := fun _ => fun
  | [d1, d2, d3, d4] => { results := [.lit (.bool false)], args := [d1, d2, d3, d4] }
  | _ => none }
def LocksNamesWrongFalsely : Prop := locksNamesRow.holds Try.pinned (OpenSpec.ofChange locksNamesWrong)

/-- 'postelaw11.GrantPlays': WHATEVER THE INPUT: true; the input reads as it did. -/
def grantPlaysSpec : ChangeSpec := { name := "grantPlays", fn := fun _ => fun
  | [d] => { results := [.lit (.bool true)], args := [d] }
  | _ => none }
def grantPlaysRow : OpenClaim := { program := "ytfpkeanimkgpaaa", sum := "4da921f05e0d6273920f8037a26a927bd937798ab97b7a41a61c599de501dc96", func := "poste/postelaw11.GrantPlays", spec := "grantPlays", inPlace := ["slices.overlaps[poste/grant.one]"], unfollowed := true, recurses := true, apart := false }
def GrantPlaysSaid : Prop := grantPlaysRow.holds Try.pinned (OpenSpec.ofChange grantPlaysSpec)

/-- ITS FALSE NEIGHBOUR: 'it returns false'. Refute it at one input. -/
def grantPlaysWrong : ChangeSpec := { name := "grantPlays", fn := fun _ => fun
  | [d] => { results := [.lit (.bool false)], args := [d] }
  | _ => none }
def GrantPlaysWrongFalsely : Prop := grantPlaysRow.holds Try.pinned (OpenSpec.ofChange grantPlaysWrong)

/-- 'postelaw11.GrantFits': WHATEVER THE INPUT: true; the input reads as it did. -/
def grantFitsSpec : ChangeSpec := { name := "grantFits", fn := fun _ => fun
  | [d] => { results := [.lit (.bool true)], args := [d] }
  | _ => none }
def grantFitsRow : OpenClaim := { program := "ytfpkeanimkgpaaa", sum := "4da921f05e0d6273920f8037a26a927bd937798ab97b7a41a61c599de501dc96", func := "poste/postelaw11.GrantFits", spec := "grantFits", inPlace := ["slices.overlaps[poste/grant.one]"], unfollowed := true, recurses := true, apart := false }
def GrantFitsSaid : Prop := grantFitsRow.holds Try.pinned (OpenSpec.ofChange grantFitsSpec)

/-- ITS FALSE NEIGHBOUR: 'it returns false'. Refute it at one input. -/
def grantFitsWrong : ChangeSpec := { name := "grantFits", fn := fun _ => fun
  | [d] => { results := [.lit (.bool false)], args := [d] }
  | _ => none }
def GrantFitsWrongFalsely : Prop := grantFitsRow.holds Try.pinned (OpenSpec.ofChange grantFitsWrong)

/-- 'postelaw11.GrantLine': WHATEVER THE INPUT: true; the input reads as it did. -/
def grantLineSpec : ChangeSpec := { name := "grantLine", fn := fun _ => fun
  | [d] => { results := [.lit (.bool true)], args := [d] }
  | _ => none }
def grantLineRow : OpenClaim := { program := "ytfpkeanimkgpaaa", sum := "4da921f05e0d6273920f8037a26a927bd937798ab97b7a41a61c599de501dc96", func := "poste/postelaw11.GrantLine", spec := "grantLine", inPlace := ["slices.overlaps[poste/grant.one]"], unfollowed := true, recurses := true, apart := false }
def GrantLineSaid : Prop := grantLineRow.holds Try.pinned (OpenSpec.ofChange grantLineSpec)

/-- ITS FALSE NEIGHBOUR: 'it returns false'. Refute it at one input. -/
def grantLineWrong : ChangeSpec := { name := "grantLine", fn := fun _ => fun
  | [d] => { results := [.lit (.bool false)], args := [d] }
  | _ => none }
def GrantLineWrongFalsely : Prop := grantLineRow.holds Try.pinned (OpenSpec.ofChange grantLineWrong)

/-- 'postelaw11.GrantMore': WHATEVER THE INPUT: true; the input reads as it did. -/
def grantMoreSpec : ChangeSpec := { name := "grantMore", fn := fun _ => fun
  | [d1, d2] => { results := [.lit (.bool true)], args := [d1, d2] }
  | _ => none }
def grantMoreRow : OpenClaim := { program := "ytfpkeanimkgpaaa", sum := "4da921f05e0d6273920f8037a26a927bd937798ab97b7a41a61c599de501dc96", func := "poste/postelaw11.GrantMore", spec := "grantMore", inPlace := ["slices.overlaps[poste/grant.one]"], unfollowed := true, recurses := true, apart := false }
def GrantMoreSaid : Prop := grantMoreRow.holds Try.pinned (OpenSpec.ofChange grantMoreSpec)

/-- ITS FALSE NEIGHBOUR: 'it returns false'. Refute it at one input. -/
def grantMoreWrong : ChangeSpec := { name := "grantMore", fn := fun _ => fun
  | [d1, d2] => { results := [.lit (.bool false)], args := [d1, d2] }
  | _ => none }
def GrantMoreWrongFalsely : Prop := grantMoreRow.holds Try.pinned (OpenSpec.ofChange grantMoreWrong)

/-- 'postelaw11.GrantAgain': WHATEVER THE INPUT: true; the input reads as it did. -/
def grantAgainSpec : ChangeSpec := { name := "grantAgain", fn := fun _ => fun
  | [d1, d2, d3] => { results := [.lit (.bool true)], args := [d1, d2, d3] }
  | _ => none }
def grantAgainRow : OpenClaim := { program := "ytfpkeanimkgpaaa", sum := "4da921f05e0d6273920f8037a26a927bd937798ab97b7a41a61c599de501dc96", func := "poste/postelaw11.GrantAgain", spec := "grantAgain", inPlace := ["slices.overlaps[poste/grant.one]"], unfollowed := true, recurses := true, apart := false }
def GrantAgainSaid : Prop := grantAgainRow.holds Try.pinned (OpenSpec.ofChange grantAgainSpec)

/-- ITS FALSE NEIGHBOUR: 'it returns false'. Refute it at one input. -/
def grantAgainWrong : ChangeSpec := { name := "grantAgain", fn := fun _ => fun
  | [d1, d2, d3] => { results := [.lit (.bool false)], args := [d1, d2, d3] }
  | _ => none }
def GrantAgainWrongFalsely : Prop := grantAgainRow.holds Try.pinned (OpenSpec.ofChange grantAgainWrong)

/-- 'postelaw13.LocksIntents': WHATEVER THE INPUT: true; the input reads as it did. -/
def locksIntentsSpec : ChangeSpec := { name := "locksIntents", fn := fun _ => fun
  | [d1, d2] => { results := [.lit (.bool true)], args := [d1, d2] }
  | _ => none }
def locksIntentsRow : OpenClaim := { program := "ytfpkeanimkgpaaa", sum := "4da921f05e0d6273920f8037a26a927bd937798ab97b7a41a61c599de501dc96", func := "poste/postelaw13.LocksIntents", spec := "locksIntents", inPlace := ["slices.overlaps[poste/locks.entry]", "slices.overlaps[poste/grant.one]"], unfollowed := true, recurses := true, apart := false }
def LocksIntentsSaid : Prop := locksIntentsRow.holds Try.pinned (OpenSpec.ofChange locksIntentsSpec)

/-- ITS FALSE NEIGHBOUR: 'it returns false'. Refute it at one input. -/
def locksIntentsWrong : ChangeSpec := { name := "locksIntents", fn := fun _ => fun
  | [d1, d2] => { results := [.lit (.bool false)], args := [d1, d2] }
  | _ => none }
def LocksIntentsWrongFalsely : Prop := locksIntentsRow.holds Try.pinned (OpenSpec.ofChange locksIntentsWrong)

/-- 'postelaw13.LocksFree': WHATEVER THE INPUT: true; the input reads as it did. -/
def locksFreeSpec : ChangeSpec := { name := "locksFree", fn := fun _ => fun
  | [d1, d2] => { results := [.lit (.bool true)], args := [d1, d2] }
  | _ => none }
def locksFreeRow : OpenClaim := { program := "ytfpkeanimkgpaaa", sum := "4da921f05e0d6273920f8037a26a927bd937798ab97b7a41a61c599de501dc96", func := "poste/postelaw13.LocksFree", spec := "locksFree", inPlace := ["slices.overlaps[poste/locks.entry]", "slices.overlaps[poste/grant.one]"], unfollowed := true, recurses := true, apart := false }
def LocksFreeSaid : Prop := locksFreeRow.holds Try.pinned (OpenSpec.ofChange locksFreeSpec)

/-- ITS FALSE NEIGHBOUR: 'it returns false'. Refute it at one input. -/
def locksFreeWrong : ChangeSpec := { name := "locksFree", fn := fun _ => fun
  | [d1, d2] => { results := [.lit (.bool false)], args := [d1, d2] }
  | _ => none }
def LocksFreeWrongFalsely : Prop := locksFreeRow.holds Try.pinned (OpenSpec.ofChange locksFreeWrong)

/- THE SECOND FORM. 'bulk': how many values and letters a reading holds, each counted each time it is reached (what is shared counts as often as it is met; a slice's spare places count too). A statement '..UptoSaid' is the law's where the arguments, and the package variables that the reading takes, are together of bulk at most 1048576: NARROWER than '..Said'. Prove '..Said' where nothing that the law and all that it calls make is longer than what came in: it says more and counts as full. Else prove '..UptoSaid'. A law counts once. -/
mutual
def uptoBulk {H : Type} : DataW H → Nat
  | .lit (.string bytes) => bytes.length + 1
  | .lit _ => 1
  | .nil => 1
  | .ptr d => uptoBulk d + 1
  | .slice elems spare => uptoBulkAll elems + uptoBulkAll spare + 1
  | .agg parts => uptoBulkAll parts + 1
  | .iface _ d => uptoBulk d + 1
  | .map entries => uptoBulkEntries entries + 1
  | .held _ => 1
def uptoBulkAll {H : Type} : List (DataW H) → Nat
  | [] => 0
  | d :: r => uptoBulk d + uptoBulkAll r
def uptoBulkEntries {H : Type} : List (Lit × DataW H) → Nat
  | [] => 0
  | x :: r => uptoBulkEntry x + uptoBulkEntries r
def uptoBulkEntry {H : Type} : Lit × DataW H → Nat
  | (.string bytes, d) => bytes.length + uptoBulk d + 1
  | (_, d) => uptoBulk d + 1
 end
def uptoSmall : (H : Type) → List (DataW H) → Bool := fun _ ds => decide (uptoBulkAll ds ≤ 1048576)
def OpenSpec.upto (s : _root_.Go.ChangeSpec) : _root_.Go.OpenSpec := { _root_.Go.OpenSpec.ofChange s with cond := some uptoSmall }

/-- 'postelaw13.LocksMany', WHERE WHAT IT READS IS OF BULK AT MOST 1048576: true; the input reads as it did. -/
def locksManyUptoRow : OpenClaim := { program := "ytfpkeanimkgpaaa", sum := "4da921f05e0d6273920f8037a26a927bd937798ab97b7a41a61c599de501dc96", func := "poste/postelaw13.LocksMany", spec := "locksMany", inPlace := ["slices.overlaps[poste/locks.entry]", "slices.overlaps[poste/grant.one]"], unfollowed := true, recurses := true, apart := false, narrowed := true }
def LocksManyUptoSaid : Prop := locksManyUptoRow.holds Try.pinned (OpenSpec.upto locksManySpec)

/-- 'postelaw12.WaitsTell', WHERE WHAT IT READS IS OF BULK AT MOST 1048576: true; the input reads as it did. -/
def waitsTellUptoRow : OpenClaim := { program := "ytfpkeanimkgpaaa", sum := "4da921f05e0d6273920f8037a26a927bd937798ab97b7a41a61c599de501dc96", func := "poste/postelaw12.WaitsTell", spec := "waitsTell", recurses := true, apart := false, narrowed := true }
def WaitsTellUptoSaid : Prop := waitsTellUptoRow.holds Try.pinned (OpenSpec.upto waitsTellSpec)

/-- 'postelaw12.WaitsRing', WHERE WHAT IT READS IS OF BULK AT MOST 1048576: true; the input reads as it did. -/
def waitsRingUptoRow : OpenClaim := { program := "ytfpkeanimkgpaaa", sum := "4da921f05e0d6273920f8037a26a927bd937798ab97b7a41a61c599de501dc96", func := "poste/postelaw12.WaitsRing", spec := "waitsRing", recurses := true, apart := false, narrowed := true }
def WaitsRingUptoSaid : Prop := waitsRingUptoRow.holds Try.pinned (OpenSpec.upto waitsRingSpec)

/-- 'postelaw12.WaitsChain', WHERE WHAT IT READS IS OF BULK AT MOST 1048576: true; the input reads as it did. -/
def waitsChainUptoRow : OpenClaim := { program := "ytfpkeanimkgpaaa", sum := "4da921f05e0d6273920f8037a26a927bd937798ab97b7a41a61c599de501dc96", func := "poste/postelaw12.WaitsChain", spec := "waitsChain", recurses := true, apart := false, narrowed := true }
def WaitsChainUptoSaid : Prop := waitsChainUptoRow.holds Try.pinned (OpenSpec.upto waitsChainSpec)

/-- 'postelaw13.LocksNames', WHERE WHAT IT READS IS OF BULK AT MOST 1048576: true; the input reads as it did. -/
def locksNamesUptoRow : OpenClaim := { program := "ytfpkeanimkgpaaa", sum := "4da921f05e0d6273920f8037a26a927bd937798ab97b7a41a61c599de501dc96", func := "poste/postelaw13.LocksNames", spec := "locksNames", inPlace := ["slices.overlaps[poste/locks.entry]", "slices.overlaps[poste/grant.one]"], unfollowed := true, recurses := true, apart := false, narrowed := true }
def LocksNamesUptoSaid : Prop := locksNamesUptoRow.holds Try.pinned (OpenSpec.upto locksNamesSpec)

/-- 'postelaw11.GrantPlays', WHERE WHAT IT READS IS OF BULK AT MOST 1048576: true; the input reads as it did. -/
def grantPlaysUptoRow : OpenClaim := { program := "ytfpkeanimkgpaaa", sum := "4da921f05e0d6273920f8037a26a927bd937798ab97b7a41a61c599de501dc96", func := "poste/postelaw11.GrantPlays", spec := "grantPlays", inPlace := ["slices.overlaps[poste/grant.one]"], unfollowed := true, recurses := true, apart := false, narrowed := true }
def GrantPlaysUptoSaid : Prop := grantPlaysUptoRow.holds Try.pinned (OpenSpec.upto grantPlaysSpec)

/-- 'postelaw11.GrantFits', WHERE WHAT IT READS IS OF BULK AT MOST 1048576: true; the input reads as it did. -/
def grantFitsUptoRow : OpenClaim := { program := "ytfpkeanimkgpaaa", sum := "4da921f05e0d6273920f8037a26a927bd937798ab97b7a41a61c599de501dc96", func := "poste/postelaw11.GrantFits", spec := "grantFits", inPlace := ["slices.overlaps[poste/grant.one]"], unfollowed := true, recurses := true, apart := false, narrowed := true }
def GrantFitsUptoSaid : Prop := grantFitsUptoRow.holds Try.pinned (OpenSpec.upto grantFitsSpec)

/-- 'postelaw11.GrantLine', WHERE WHAT IT READS IS OF BULK AT MOST 1048576: true; the input reads as it did. -/
def grantLineUptoRow : OpenClaim := { program := "ytfpkeanimkgpaaa", sum := "4da921f05e0d6273920f8037a26a927bd937798ab97b7a41a61c599de501dc96", func := "poste/postelaw11.GrantLine", spec := "grantLine", inPlace := ["slices.overlaps[poste/grant.one]"], unfollowed := true, recurses := true, apart := false, narrowed := true }
def GrantLineUptoSaid : Prop := grantLineUptoRow.holds Try.pinned (OpenSpec.upto grantLineSpec)

/-- 'postelaw11.GrantMore', WHERE WHAT IT READS IS OF BULK AT MOST 1048576: true; the input reads as it did. -/
def grantMoreUptoRow : OpenClaim := { program := "ytfpkeanimkgpaaa", sum := "4da921f05e0d6273920f8037a26a927bd937798ab97b7a41a61c599de501dc96", func := "poste/postelaw11.GrantMore", spec := "grantMore", inPlace := ["slices.overlaps[poste/grant.one]"], unfollowed := true, recurses := true, apart := false, narrowed := true }
def GrantMoreUptoSaid : Prop := grantMoreUptoRow.holds Try.pinned (OpenSpec.upto grantMoreSpec)

/-- 'postelaw11.GrantAgain', WHERE WHAT IT READS IS OF BULK AT MOST 1048576: true; the input reads as it did. -/
def grantAgainUptoRow : OpenClaim := { program := "ytfpkeanimkgpaaa", sum := "4da921f05e0d6273920f8037a26a927bd937798ab97b7a41a61c599de501dc96", func := "poste/postelaw11.GrantAgain", spec := "grantAgain", inPlace := ["slices.overlaps[poste/grant.one]"], unfollowed := true, recurses := true, apart := false, narrowed := true }
def GrantAgainUptoSaid : Prop := grantAgainUptoRow.holds Try.pinned (OpenSpec.upto grantAgainSpec)

/-- 'postelaw13.LocksIntents', WHERE WHAT IT READS IS OF BULK AT MOST 1048576: true; the input reads as it did. -/
def locksIntentsUptoRow : OpenClaim := { program := "ytfpkeanimkgpaaa", sum := "4da921f05e0d6273920f8037a26a927bd937798ab97b7a41a61c599de501dc96", func := "poste/postelaw13.LocksIntents", spec := "locksIntents", inPlace := ["slices.overlaps[poste/locks.entry]", "slices.overlaps[poste/grant.one]"], unfollowed := true, recurses := true, apart := false, narrowed := true }
def LocksIntentsUptoSaid : Prop := locksIntentsUptoRow.holds Try.pinned (OpenSpec.upto locksIntentsSpec)

/-- 'postelaw13.LocksFree', WHERE WHAT IT READS IS OF BULK AT MOST 1048576: true; the input reads as it did. -/
def locksFreeUptoRow : OpenClaim := { program := "ytfpkeanimkgpaaa", sum := "4da921f05e0d6273920f8037a26a927bd937798ab97b7a41a61c599de501dc96", func := "poste/postelaw13.LocksFree", spec := "locksFree", inPlace := ["slices.overlaps[poste/locks.entry]", "slices.overlaps[poste/grant.one]"], unfollowed := true, recurses := true, apart := false, narrowed := true }
def LocksFreeUptoSaid : Prop := locksFreeUptoRow.holds Try.pinned (OpenSpec.upto locksFreeSpec)

end Rows
end Go.Proofs.Ytfpkeanimkgpaaa
