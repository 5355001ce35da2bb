/-
  No cell of these rows narrows 'for every input' (looked for: loops, veiled, ifaces, maps, wideKeys, modest, calm, conditions, laid).
  DERIVED. THE GIVEN ROWS OF THIS SEAT. 16 by the template 'for every input the law returns true; each argument reads behind the call as it read before'; 0 by the template 'total and deterministic' (their statements: YtjeeejoelmmfmaaGreatTotals.lean).
  GIVEN WITH THE SEED: the statements are not yours to turn. If you find one false, say at which input.
  Laid BY PROGRAM, IN A SANDBOX (cutbox-rows.mjs): the forced cells as the released guide's own fill.sh prints them over the translation 35a4670db2aab871… (all of the seat's roots in one cut). By AI agents, Wed Nov 11 2026. No macro, syntax, notation, axiom, sorry.
-/
import Derived.Test.YtjeeejoelmmfmaaGreatChecked
import GoSem.Claim
import GoSem.ClaimJoined
import GoSem.ClaimMapViews
import Derived.JoinedTies
import Derived.KernelRfl
namespace Go.Proofs.YtjeeejoelmmfmaaGreat
/- THE CELL 'sum', in the pinned program and in every row, IS THE sha256 OF THE DUMP (.gsa) THAT YtjeeejoelmmfmaaGreatProg.lean LOADS. Nothing in Lean hashes anything: it is a label: what it is worth is what the hold of that sum in a sandbox is worth. -/
noncomputable def Tryz.pinned : Pinned := { name := "ytjeeejoelmmfmaagreat", sum := "35a4670db2aab8719a030c3bc666030abac1a746d652fd64746e6e5e32e281b1", checked := Tryz.checked }
namespace Rows
def none {H : Type} : Left H := { results := [], args := [] }

/-- 'flagstonelaw11.VolumeReads': WHATEVER THE INPUT: true; the input reads as it did. -/
def volumeReadsSpec : ChangeSpec := { name := "volumeReads", fn := fun _ => fun
  | [d1, d2, d3, d4, d5, d6] => { results := [.lit (.bool true)], args := [d1, d2, d3, d4, d5, d6] }
  | _ => none }
def volumeReadsRow : OpenClaim := { program := "ytjeeejoelmmfmaagreat", sum := "35a4670db2aab8719a030c3bc666030abac1a746d652fd64746e6e5e32e281b1", func := "flagstone/flagstonelaw11.VolumeReads", spec := "volumeReads", inPlace := ["slices.overlaps[flagstone/api.Span]"], unfollowed := true, recurses := true, apart := false }
def VolumeReadsSaid : Prop := volumeReadsRow.holds Tryz.pinned (OpenSpec.ofChange volumeReadsSpec)

/-- ITS FALSE NEIGHBOUR: 'it returns false'. Refute it at one input. -/
def volumeReadsWrong : ChangeSpec := { name := "volumeReads", fn := fun _ => fun
  | [d1, d2, d3, d4, d5, d6] => { results := [.lit (.bool false)], args := [d1, d2, d3, d4, d5, d6] }
  | _ => none }
def VolumeReadsWrongFalsely : Prop := volumeReadsRow.holds Tryz.pinned (OpenSpec.ofChange volumeReadsWrong)

/-- 'flagstonelaw11.VolumeSpace': WHATEVER THE INPUT: true; the input reads as it did. -/
def volumeSpaceSpec : ChangeSpec := { name := "volumeSpace", fn := fun _ => fun
  | [d1, d2, d3, d4, d5] => { results := [.lit (.bool true)], args := [d1, d2, d3, d4, d5] }
  | _ => none }
def volumeSpaceRow : OpenClaim := { program := "ytjeeejoelmmfmaagreat", sum := "35a4670db2aab8719a030c3bc666030abac1a746d652fd64746e6e5e32e281b1", func := "flagstone/flagstonelaw11.VolumeSpace", spec := "volumeSpace", inPlace := ["slices.overlaps[flagstone/api.Span]"], unfollowed := true, recurses := true, apart := false }
def VolumeSpaceSaid : Prop := volumeSpaceRow.holds Tryz.pinned (OpenSpec.ofChange volumeSpaceSpec)

/-- ITS FALSE NEIGHBOUR: 'it returns false'. Refute it at one input. -/
def volumeSpaceWrong : ChangeSpec := { name := "volumeSpace", fn := fun _ => fun
  | [d1, d2, d3, d4, d5] => { results := [.lit (.bool false)], args := [d1, d2, d3, d4, d5] }
  | _ => none }
def VolumeSpaceWrongFalsely : Prop := volumeSpaceRow.holds Tryz.pinned (OpenSpec.ofChange volumeSpaceWrong)

/-- 'flagstonelaw11.VolumeShares': WHATEVER THE INPUT: true; the input reads as it did. -/
def volumeSharesSpec : ChangeSpec := { name := "volumeShares", fn := fun _ => fun
  | [d1, d2, d3, d4] => { results := [.lit (.bool true)], args := [d1, d2, d3, d4] }
  | _ => none }
def volumeSharesRow : OpenClaim := { program := "ytjeeejoelmmfmaagreat", sum := "35a4670db2aab8719a030c3bc666030abac1a746d652fd64746e6e5e32e281b1", func := "flagstone/flagstonelaw11.VolumeShares", spec := "volumeShares", inPlace := ["slices.overlaps[flagstone/api.Span]"], unfollowed := true, recurses := true, apart := false }
def VolumeSharesSaid : Prop := volumeSharesRow.holds Tryz.pinned (OpenSpec.ofChange volumeSharesSpec)

/-- ITS FALSE NEIGHBOUR: 'it returns false'. Refute it at one input. -/
def volumeSharesWrong : ChangeSpec := { name := "volumeShares", fn := fun _ => fun
  | [d1, d2, d3, d4] => { results := [.lit (.bool false)], args := [d1, d2, d3, d4] }
  | _ => none }
def VolumeSharesWrongFalsely : Prop := volumeSharesRow.holds Tryz.pinned (OpenSpec.ofChange volumeSharesWrong)

/-- 'flagstonelaw11.VolumeEmpties': WHATEVER THE INPUT: true; the input reads as it did. -/
def volumeEmptiesSpec : ChangeSpec := { name := "volumeEmpties", fn := fun _ => fun
  | [d1, d2, d3] => { results := [.lit (.bool true)], args := [d1, d2, d3] }
  | _ => none }
def volumeEmptiesRow : OpenClaim := { program := "ytjeeejoelmmfmaagreat", sum := "35a4670db2aab8719a030c3bc666030abac1a746d652fd64746e6e5e32e281b1", func := "flagstone/flagstonelaw11.VolumeEmpties", spec := "volumeEmpties", inPlace := ["slices.overlaps[flagstone/api.Span]"], unfollowed := true, recurses := true, apart := false }
def VolumeEmptiesSaid : Prop := volumeEmptiesRow.holds Tryz.pinned (OpenSpec.ofChange volumeEmptiesSpec)

/-- ITS FALSE NEIGHBOUR: 'it returns false'. Refute it at one input. -/
def volumeEmptiesWrong : ChangeSpec := { name := "volumeEmpties", fn := fun _ => fun
  | [d1, d2, d3] => { results := [.lit (.bool false)], args := [d1, d2, d3] }
  | _ => none }
def VolumeEmptiesWrongFalsely : Prop := volumeEmptiesRow.holds Tryz.pinned (OpenSpec.ofChange volumeEmptiesWrong)

/-- 'flagstonelaw11.VolumeFree': WHATEVER THE INPUT: true; the input reads as it did. -/
def volumeFreeSpec : ChangeSpec := { name := "volumeFree", fn := fun _ => fun
  | [d1, d2, d3] => { results := [.lit (.bool true)], args := [d1, d2, d3] }
  | _ => none }
def volumeFreeRow : OpenClaim := { program := "ytjeeejoelmmfmaagreat", sum := "35a4670db2aab8719a030c3bc666030abac1a746d652fd64746e6e5e32e281b1", func := "flagstone/flagstonelaw11.VolumeFree", spec := "volumeFree", inPlace := ["slices.overlaps[flagstone/api.Span]"], unfollowed := true, recurses := true, apart := false }
def VolumeFreeSaid : Prop := volumeFreeRow.holds Tryz.pinned (OpenSpec.ofChange volumeFreeSpec)

/-- ITS FALSE NEIGHBOUR: 'it returns false'. Refute it at one input. -/
def volumeFreeWrong : ChangeSpec := { name := "volumeFree", fn := fun _ => fun
  | [d1, d2, d3] => { results := [.lit (.bool false)], args := [d1, d2, d3] }
  | _ => none }
def VolumeFreeWrongFalsely : Prop := volumeFreeRow.holds Tryz.pinned (OpenSpec.ofChange volumeFreeWrong)

/-- 'flagstonelaw11.VolumeNew': WHATEVER THE INPUT: true; the input reads as it did. -/
def volumeNewSpec : ChangeSpec := { name := "volumeNew", fn := fun _ => fun
  | [d1, d2] => { results := [.lit (.bool true)], args := [d1, d2] }
  | _ => none }
def volumeNewRow : OpenClaim := { program := "ytjeeejoelmmfmaagreat", sum := "35a4670db2aab8719a030c3bc666030abac1a746d652fd64746e6e5e32e281b1", func := "flagstone/flagstonelaw11.VolumeNew", spec := "volumeNew", inPlace := ["slices.overlaps[flagstone/api.Span]"], unfollowed := true, recurses := true, apart := false }
def VolumeNewSaid : Prop := volumeNewRow.holds Tryz.pinned (OpenSpec.ofChange volumeNewSpec)

/-- ITS FALSE NEIGHBOUR: 'it returns false'. Refute it at one input. -/
def volumeNewWrong : ChangeSpec := { name := "volumeNew", fn := fun _ => fun
  | [d1, d2] => { results := [.lit (.bool false)], args := [d1, d2] }
  | _ => none }
def VolumeNewWrongFalsely : Prop := volumeNewRow.holds Tryz.pinned (OpenSpec.ofChange volumeNewWrong)

/-- 'flagstonelaw11.VolumeOwn': WHATEVER THE INPUT: true; the input reads as it did. -/
def volumeOwnSpec : ChangeSpec := { name := "volumeOwn", fn := fun _ => fun
  | [d1, d2, d3, d4] => { results := [.lit (.bool true)], args := [d1, d2, d3, d4] }
  | _ => none }
def volumeOwnRow : OpenClaim := { program := "ytjeeejoelmmfmaagreat", sum := "35a4670db2aab8719a030c3bc666030abac1a746d652fd64746e6e5e32e281b1", func := "flagstone/flagstonelaw11.VolumeOwn", spec := "volumeOwn", inPlace := ["slices.overlaps[flagstone/api.Span]"], unfollowed := true, recurses := true, apart := false }
def VolumeOwnSaid : Prop := volumeOwnRow.holds Tryz.pinned (OpenSpec.ofChange volumeOwnSpec)

/-- ITS FALSE NEIGHBOUR: 'it returns false'. Refute it at one input. -/
def volumeOwnWrong : ChangeSpec := { name := "volumeOwn", fn := fun _ => fun
  | [d1, d2, d3, d4] => { results := [.lit (.bool false)], args := [d1, d2, d3, d4] }
  | _ => none }
def VolumeOwnWrongFalsely : Prop := volumeOwnRow.holds Tryz.pinned (OpenSpec.ofChange volumeOwnWrong)

/-- 'flagstonelaw11.VolumeRaw': WHATEVER THE INPUT: true; the input reads as it did. -/
def volumeRawSpec : ChangeSpec := { name := "volumeRaw", fn := fun _ => fun
  | [d1, d2] => { results := [.lit (.bool true)], args := [d1, d2] }
  | _ => none }
def volumeRawRow : OpenClaim := { program := "ytjeeejoelmmfmaagreat", sum := "35a4670db2aab8719a030c3bc666030abac1a746d652fd64746e6e5e32e281b1", func := "flagstone/flagstonelaw11.VolumeRaw", spec := "volumeRaw", inPlace := ["slices.overlaps[flagstone/api.Span]"], unfollowed := true, recurses := true, apart := false }
def VolumeRawSaid : Prop := volumeRawRow.holds Tryz.pinned (OpenSpec.ofChange volumeRawSpec)

/-- ITS FALSE NEIGHBOUR: 'it returns false'. Refute it at one input. -/
def volumeRawWrong : ChangeSpec := { name := "volumeRaw", fn := fun _ => fun
  | [d1, d2] => { results := [.lit (.bool false)], args := [d1, d2] }
  | _ => none }
def VolumeRawWrongFalsely : Prop := volumeRawRow.holds Tryz.pinned (OpenSpec.ofChange volumeRawWrong)

/-- 'flagstonelaw12.RelocVictims': WHATEVER THE INPUT: true; the input reads as it did. -/
def relocVictimsSpec : ChangeSpec := { name := "relocVictims", fn := fun _ => fun
  | [d1, d2] => { results := [.lit (.bool true)], args := [d1, d2] }
  | _ => none }
def relocVictimsRow : OpenClaim := { program := "ytjeeejoelmmfmaagreat", sum := "35a4670db2aab8719a030c3bc666030abac1a746d652fd64746e6e5e32e281b1", func := "flagstone/flagstonelaw12.RelocVictims", spec := "relocVictims", inPlace := ["slices.overlaps[flagstone/api.Span]"], unfollowed := true, recurses := true, apart := false }
def RelocVictimsSaid : Prop := relocVictimsRow.holds Tryz.pinned (OpenSpec.ofChange relocVictimsSpec)

/-- ITS FALSE NEIGHBOUR: 'it returns false'. Refute it at one input. -/
def relocVictimsWrong : ChangeSpec := { name := "relocVictims", fn := fun _ => fun
  | [d1, d2] => { results := [.lit (.bool false)], args := [d1, d2] }
  | _ => none }
def RelocVictimsWrongFalsely : Prop := relocVictimsRow.holds Tryz.pinned (OpenSpec.ofChange relocVictimsWrong)

/-- 'flagstonelaw13.ResizeNeeds': WHATEVER THE INPUT: true; the input reads as it did. -/
def resizeNeedsSpec : ChangeSpec := { name := "resizeNeeds", fn := fun _ => fun
  | [d1, d2, d3, d4] => { results := [.lit (.bool true)], args := [d1, d2, d3, d4] }
  | _ => none }
def resizeNeedsRow : OpenClaim := { program := "ytjeeejoelmmfmaagreat", sum := "35a4670db2aab8719a030c3bc666030abac1a746d652fd64746e6e5e32e281b1", func := "flagstone/flagstonelaw13.ResizeNeeds", spec := "resizeNeeds", inPlace := ["slices.overlaps[flagstone/api.Span]"], unfollowed := true, recurses := true, apart := false }
def ResizeNeedsSaid : Prop := resizeNeedsRow.holds Tryz.pinned (OpenSpec.ofChange resizeNeedsSpec)

/-- ITS FALSE NEIGHBOUR: 'it returns false'. Refute it at one input. -/
def resizeNeedsWrong : ChangeSpec := { name := "resizeNeeds", fn := fun _ => fun
  | [d1, d2, d3, d4] => { results := [.lit (.bool false)], args := [d1, d2, d3, d4] }
  | _ => none }
def ResizeNeedsWrongFalsely : Prop := resizeNeedsRow.holds Tryz.pinned (OpenSpec.ofChange resizeNeedsWrong)

/-- 'flagstonelaw13.ResizeGrows': WHATEVER THE INPUT: true; the input reads as it did. -/
def resizeGrowsSpec : ChangeSpec := { name := "resizeGrows", fn := fun _ => fun
  | [d1, d2, d3] => { results := [.lit (.bool true)], args := [d1, d2, d3] }
  | _ => none }
def resizeGrowsRow : OpenClaim := { program := "ytjeeejoelmmfmaagreat", sum := "35a4670db2aab8719a030c3bc666030abac1a746d652fd64746e6e5e32e281b1", func := "flagstone/flagstonelaw13.ResizeGrows", spec := "resizeGrows", inPlace := ["slices.overlaps[flagstone/api.Span]"], unfollowed := true, recurses := true, apart := false }
def ResizeGrowsSaid : Prop := resizeGrowsRow.holds Tryz.pinned (OpenSpec.ofChange resizeGrowsSpec)

/-- ITS FALSE NEIGHBOUR: 'it returns false'. Refute it at one input. -/
def resizeGrowsWrong : ChangeSpec := { name := "resizeGrows", fn := fun _ => fun
  | [d1, d2, d3] => { results := [.lit (.bool false)], args := [d1, d2, d3] }
  | _ => none }
def ResizeGrowsWrongFalsely : Prop := resizeGrowsRow.holds Tryz.pinned (OpenSpec.ofChange resizeGrowsWrong)

/-- 'flagstonelaw13.ResizePlays': WHATEVER THE INPUT: true; the input reads as it did. -/
def resizePlaysSpec : ChangeSpec := { name := "resizePlays", fn := fun _ => fun
  | [d1, d2] => { results := [.lit (.bool true)], args := [d1, d2] }
  | _ => none }
def resizePlaysRow : OpenClaim := { program := "ytjeeejoelmmfmaagreat", sum := "35a4670db2aab8719a030c3bc666030abac1a746d652fd64746e6e5e32e281b1", func := "flagstone/flagstonelaw13.ResizePlays", spec := "resizePlays", inPlace := ["slices.overlaps[flagstone/api.Span]"], unfollowed := true, recurses := true, apart := false }
def ResizePlaysSaid : Prop := resizePlaysRow.holds Tryz.pinned (OpenSpec.ofChange resizePlaysSpec)

/-- ITS FALSE NEIGHBOUR: 'it returns false'. Refute it at one input. -/
def resizePlaysWrong : ChangeSpec := { name := "resizePlays", fn := fun _ => fun
  | [d1, d2] => { results := [.lit (.bool false)], args := [d1, d2] }
  | _ => none }
def ResizePlaysWrongFalsely : Prop := resizePlaysRow.holds Tryz.pinned (OpenSpec.ofChange resizePlaysWrong)

/-- 'flagstonelaw12.RelocMoves': WHATEVER THE INPUT: true; the input reads as it did. -/
def relocMovesSpec : ChangeSpec := { name := "relocMoves", fn := fun _ => fun
  | [d1, d2, d3, d4] => { results := [.lit (.bool true)], args := [d1, d2, d3, d4] }
  | _ => none }
def relocMovesRow : OpenClaim := { program := "ytjeeejoelmmfmaagreat", sum := "35a4670db2aab8719a030c3bc666030abac1a746d652fd64746e6e5e32e281b1", func := "flagstone/flagstonelaw12.RelocMoves", spec := "relocMoves", inPlace := ["slices.overlaps[flagstone/api.Span]"], unfollowed := true, recurses := true, apart := false }
def RelocMovesSaid : Prop := relocMovesRow.holds Tryz.pinned (OpenSpec.ofChange relocMovesSpec)

/-- ITS FALSE NEIGHBOUR: 'it returns false'. Refute it at one input. -/
def relocMovesWrong : ChangeSpec := { name := "relocMoves", fn := fun _ => fun
  | [d1, d2, d3, d4] => { results := [.lit (.bool false)], args := [d1, d2, d3, d4] }
  | _ => none }
def RelocMovesWrongFalsely : Prop := relocMovesRow.holds Tryz.pinned (OpenSpec.ofChange relocMovesWrong)

/-- 'flagstonelaw13.ResizeTruncates': WHATEVER THE INPUT: true; the input reads as it did. -/
def resizeTruncatesSpec : ChangeSpec := { name := "resizeTruncates", fn := fun _ => fun
  | [d1, d2] => { results := [.lit (.bool true)], args := [d1, d2] }
  | _ => none }
def resizeTruncatesRow : OpenClaim := { program := "ytjeeejoelmmfmaagreat", sum := "35a4670db2aab8719a030c3bc666030abac1a746d652fd64746e6e5e32e281b1", func := "flagstone/flagstonelaw13.ResizeTruncates", spec := "resizeTruncates", inPlace := ["slices.overlaps[flagstone/api.Span]"], unfollowed := true, recurses := true, apart := false }
def ResizeTruncatesSaid : Prop := resizeTruncatesRow.holds Tryz.pinned (OpenSpec.ofChange resizeTruncatesSpec)

/-- ITS FALSE NEIGHBOUR: 'it returns false'. Refute it at one input. -/
def resizeTruncatesWrong : ChangeSpec := { name := "resizeTruncates", fn := fun _ => fun
  | [d1, d2] => { results := [.lit (.bool false)], args := [d1, d2] }
  | _ => none }
def ResizeTruncatesWrongFalsely : Prop := resizeTruncatesRow.holds Tryz.pinned (OpenSpec.ofChange resizeTruncatesWrong)

/-- 'flagstonelaw13.ResizeAgain': WHATEVER THE INPUT: true; the input reads as it did. -/
def resizeAgainSpec : ChangeSpec := { name := "resizeAgain", fn := fun _ => fun
  | [d1, d2, d3] => { results := [.lit (.bool true)], args := [d1, d2, d3] }
  | _ => none }
def resizeAgainRow : OpenClaim := { program := "ytjeeejoelmmfmaagreat", sum := "35a4670db2aab8719a030c3bc666030abac1a746d652fd64746e6e5e32e281b1", func := "flagstone/flagstonelaw13.ResizeAgain", spec := "resizeAgain", inPlace := ["slices.overlaps[flagstone/api.Span]"], unfollowed := true, recurses := true, apart := false }
def ResizeAgainSaid : Prop := resizeAgainRow.holds Tryz.pinned (OpenSpec.ofChange resizeAgainSpec)

/-- ITS FALSE NEIGHBOUR: 'it returns false'. Refute it at one input. -/
def resizeAgainWrong : ChangeSpec := { name := "resizeAgain", fn := fun _ => fun
  | [d1, d2, d3] => { results := [.lit (.bool false)], args := [d1, d2, d3] }
  | _ => none }
def ResizeAgainWrongFalsely : Prop := resizeAgainRow.holds Tryz.pinned (OpenSpec.ofChange resizeAgainWrong)

/-- 'flagstonelaw13.ResizeOwn': WHATEVER THE INPUT: true; the input reads as it did. -/
def resizeOwnSpec : ChangeSpec := { name := "resizeOwn", fn := fun _ => fun
  | [d1, d2, d3] => { results := [.lit (.bool true)], args := [d1, d2, d3] }
  | _ => none }
def resizeOwnRow : OpenClaim := { program := "ytjeeejoelmmfmaagreat", sum := "35a4670db2aab8719a030c3bc666030abac1a746d652fd64746e6e5e32e281b1", func := "flagstone/flagstonelaw13.ResizeOwn", spec := "resizeOwn", inPlace := ["slices.overlaps[flagstone/api.Span]"], unfollowed := true, recurses := true, apart := false }
def ResizeOwnSaid : Prop := resizeOwnRow.holds Tryz.pinned (OpenSpec.ofChange resizeOwnSpec)

/-- ITS FALSE NEIGHBOUR: 'it returns false'. Refute it at one input. -/
def resizeOwnWrong : ChangeSpec := { name := "resizeOwn", fn := fun _ => fun
  | [d1, d2, d3] => { results := [.lit (.bool false)], args := [d1, d2, d3] }
  | _ => none }
def ResizeOwnWrongFalsely : Prop := resizeOwnRow.holds Tryz.pinned (OpenSpec.ofChange resizeOwnWrong)

/- THE SECOND FORM. 'bulk': how many values and letters a reading holds, each counted each time it is reached (what is shared counts as often as it is met; a slice's spare places count too). A statement '..UptoSaid' is the law's where the arguments, and the package variables that the reading takes, are together of bulk at most 1048576: NARROWER than '..Said'. Prove '..Said' where nothing that the law and all that it calls make is longer than what came in: it says more and counts as full. Else prove '..UptoSaid'. A law counts once. -/
mutual
def uptoBulk {H : Type} : DataW H → Nat
  | .lit (.string bytes) => bytes.length + 1
  | .lit _ => 1
  | .nil => 1
  | .ptr d => uptoBulk d + 1
  | .slice elems spare => uptoBulkAll elems + uptoBulkAll spare + 1
  | .agg parts => uptoBulkAll parts + 1
  | .iface _ d => uptoBulk d + 1
  | .map entries => uptoBulkEntries entries + 1
  | .held _ => 1
def uptoBulkAll {H : Type} : List (DataW H) → Nat
  | [] => 0
  | d :: r => uptoBulk d + uptoBulkAll r
def uptoBulkEntries {H : Type} : List (Lit × DataW H) → Nat
  | [] => 0
  | x :: r => uptoBulkEntry x + uptoBulkEntries r
def uptoBulkEntry {H : Type} : Lit × DataW H → Nat
  | (.string bytes, d) => bytes.length + uptoBulk d + 1
  | (_, d) => uptoBulk d + 1
 end
def uptoSmall : (H : Type) → List (DataW H) → Bool := fun _ ds => decide (uptoBulkAll ds ≤ 1048576)
def OpenSpec.upto (s : _root_.Go.ChangeSpec) : _root_.Go.OpenSpec := { _root_.Go.OpenSpec.ofChange s with cond := some uptoSmall }

/-- 'flagstonelaw11.VolumeReads', WHERE WHAT IT READS IS OF BULK AT MOST 1048576: true; the input reads as it did. -/
def volumeReadsUptoRow : OpenClaim := { program := "ytjeeejoelmmfmaagreat", sum := "35a4670db2aab8719a030c3bc666030abac1a746d652fd64746e6e5e32e281b1", func := "flagstone/flagstonelaw11.VolumeReads", spec := "volumeReads", inPlace := ["slices.overlaps[flagstone/api.Span]"], unfollowed := true, recurses := true, apart := false, narrowed := true }
def VolumeReadsUptoSaid : Prop := volumeReadsUptoRow.holds Tryz.pinned (OpenSpec.upto volumeReadsSpec)

/-- 'flagstonelaw11.VolumeSpace', WHERE WHAT IT READS IS OF BULK AT MOST 1048576: true; the input reads as it did. -/
def volumeSpaceUptoRow : OpenClaim := { program := "ytjeeejoelmmfmaagreat", sum := "35a4670db2aab8719a030c3bc666030abac1a746d652fd64746e6e5e32e281b1", func := "flagstone/flagstonelaw11.VolumeSpace", spec := "volumeSpace", inPlace := ["slices.overlaps[flagstone/api.Span]"], unfollowed := true, recurses := true, apart := false, narrowed := true }
def VolumeSpaceUptoSaid : Prop := volumeSpaceUptoRow.holds Tryz.pinned (OpenSpec.upto volumeSpaceSpec)

/-- 'flagstonelaw11.VolumeShares', WHERE WHAT IT READS IS OF BULK AT MOST 1048576: true; the input reads as it did. -/
def volumeSharesUptoRow : OpenClaim := { program := "ytjeeejoelmmfmaagreat", sum := "35a4670db2aab8719a030c3bc666030abac1a746d652fd64746e6e5e32e281b1", func := "flagstone/flagstonelaw11.VolumeShares", spec := "volumeShares", inPlace := ["slices.overlaps[flagstone/api.Span]"], unfollowed := true, recurses := true, apart := false, narrowed := true }
def VolumeSharesUptoSaid : Prop := volumeSharesUptoRow.holds Tryz.pinned (OpenSpec.upto volumeSharesSpec)

/-- 'flagstonelaw11.VolumeEmpties', WHERE WHAT IT READS IS OF BULK AT MOST 1048576: true; the input reads as it did. -/
def volumeEmptiesUptoRow : OpenClaim := { program := "ytjeeejoelmmfmaagreat", sum := "35a4670db2aab8719a030c3bc666030abac1a746d652fd64746e6e5e32e281b1", func := "flagstone/flagstonelaw11.VolumeEmpties", spec := "volumeEmpties", inPlace := ["slices.overlaps[flagstone/api.Span]"], unfollowed := true, recurses := true, apart := false, narrowed := true }
def VolumeEmptiesUptoSaid : Prop := volumeEmptiesUptoRow.holds Tryz.pinned (OpenSpec.upto volumeEmptiesSpec)

/-- 'flagstonelaw11.VolumeFree', WHERE WHAT IT READS IS OF BULK AT MOST 1048576: true; the input reads as it did. -/
def volumeFreeUptoRow : OpenClaim := { program := "ytjeeejoelmmfmaagreat", sum := "35a4670db2aab8719a030c3bc666030abac1a746d652fd64746e6e5e32e281b1", func := "flagstone/flagstonelaw11.VolumeFree", spec := "volumeFree", inPlace := ["slices.overlaps[flagstone/api.Span]"], unfollowed := true, recurses := true, apart := false, narrowed := true }
def VolumeFreeUptoSaid : Prop := volumeFreeUptoRow.holds Tryz.pinned (OpenSpec.upto volumeFreeSpec)

/-- 'flagstonelaw11.VolumeNew', WHERE WHAT IT READS IS OF BULK AT MOST 1048576: true; the input reads as it did. -/
def volumeNewUptoRow : OpenClaim := { program := "ytjeeejoelmmfmaagreat", sum := "35a4670db2aab8719a030c3bc666030abac1a746d652fd64746e6e5e32e281b1", func := "flagstone/flagstonelaw11.VolumeNew", spec := "volumeNew", inPlace := ["slices.overlaps[flagstone/api.Span]"], unfollowed := true, recurses := true, apart := false, narrowed := true }
def VolumeNewUptoSaid : Prop := volumeNewUptoRow.holds Tryz.pinned (OpenSpec.upto volumeNewSpec)

/-- 'flagstonelaw11.VolumeOwn', WHERE WHAT IT READS IS OF BULK AT MOST 1048576: true; the input reads as it did. -/
def volumeOwnUptoRow : OpenClaim := { program := "ytjeeejoelmmfmaagreat", sum := "35a4670db2aab8719a030c3bc666030abac1a746d652fd64746e6e5e32e281b1", func := "flagstone/flagstonelaw11.VolumeOwn", spec := "volumeOwn", inPlace := ["slices.overlaps[flagstone/api.Span]"], unfollowed := true, recurses := true, apart := false, narrowed := true }
def VolumeOwnUptoSaid : Prop := volumeOwnUptoRow.holds Tryz.pinned (OpenSpec.upto volumeOwnSpec)

/-- 'flagstonelaw11.VolumeRaw', WHERE WHAT IT READS IS OF BULK AT MOST 1048576: true; the input reads as it did. -/
def volumeRawUptoRow : OpenClaim := { program := "ytjeeejoelmmfmaagreat", sum := "35a4670db2aab8719a030c3bc666030abac1a746d652fd64746e6e5e32e281b1", func := "flagstone/flagstonelaw11.VolumeRaw", spec := "volumeRaw", inPlace := ["slices.overlaps[flagstone/api.Span]"], unfollowed := true, recurses := true, apart := false, narrowed := true }
def VolumeRawUptoSaid : Prop := volumeRawUptoRow.holds Tryz.pinned (OpenSpec.upto volumeRawSpec)

/-- 'flagstonelaw12.RelocVictims', WHERE WHAT IT READS IS OF BULK AT MOST 1048576: true; the input reads as it did. -/
def relocVictimsUptoRow : OpenClaim := { program := "ytjeeejoelmmfmaagreat", sum := "35a4670db2aab8719a030c3bc666030abac1a746d652fd64746e6e5e32e281b1", func := "flagstone/flagstonelaw12.RelocVictims", spec := "relocVictims", inPlace := ["slices.overlaps[flagstone/api.Span]"], unfollowed := true, recurses := true, apart := false, narrowed := true }
def RelocVictimsUptoSaid : Prop := relocVictimsUptoRow.holds Tryz.pinned (OpenSpec.upto relocVictimsSpec)

/-- 'flagstonelaw13.ResizeNeeds', WHERE WHAT IT READS IS OF BULK AT MOST 1048576: true; the input reads as it did. -/
def resizeNeedsUptoRow : OpenClaim := { program := "ytjeeejoelmmfmaagreat", sum := "35a4670db2aab8719a030c3bc666030abac1a746d652fd64746e6e5e32e281b1", func := "flagstone/flagstonelaw13.ResizeNeeds", spec := "resizeNeeds", inPlace := ["slices.overlaps[flagstone/api.Span]"], unfollowed := true, recurses := true, apart := false, narrowed := true }
def ResizeNeedsUptoSaid : Prop := resizeNeedsUptoRow.holds Tryz.pinned (OpenSpec.upto resizeNeedsSpec)

/-- 'flagstonelaw13.ResizeGrows', WHERE WHAT IT READS IS OF BULK AT MOST 1048576: true; the input reads as it did. -/
def resizeGrowsUptoRow : OpenClaim := { program := "ytjeeejoelmmfmaagreat", sum := "35a4670db2aab8719a030c3bc666030abac1a746d652fd64746e6e5e32e281b1", func := "flagstone/flagstonelaw13.ResizeGrows", spec := "resizeGrows", inPlace := ["slices.overlaps[flagstone/api.Span]"], unfollowed := true, recurses := true, apart := false, narrowed := true }
def ResizeGrowsUptoSaid : Prop := resizeGrowsUptoRow.holds Tryz.pinned (OpenSpec.upto resizeGrowsSpec)

/-- 'flagstonelaw13.ResizePlays', WHERE WHAT IT READS IS OF BULK AT MOST 1048576: true; the input reads as it did. -/
def resizePlaysUptoRow : OpenClaim := { program := "ytjeeejoelmmfmaagreat", sum := "35a4670db2aab8719a030c3bc666030abac1a746d652fd64746e6e5e32e281b1", func := "flagstone/flagstonelaw13.ResizePlays", spec := "resizePlays", inPlace := ["slices.overlaps[flagstone/api.Span]"], unfollowed := true, recurses := true, apart := false, narrowed := true }
def ResizePlaysUptoSaid : Prop := resizePlaysUptoRow.holds Tryz.pinned (OpenSpec.upto resizePlaysSpec)

/-- 'flagstonelaw12.RelocMoves', WHERE WHAT IT READS IS OF BULK AT MOST 1048576: true; the input reads as it did. -/
def relocMovesUptoRow : OpenClaim := { program := "ytjeeejoelmmfmaagreat", sum := "35a4670db2aab8719a030c3bc666030abac1a746d652fd64746e6e5e32e281b1", func := "flagstone/flagstonelaw12.RelocMoves", spec := "relocMoves", inPlace := ["slices.overlaps[flagstone/api.Span]"], unfollowed := true, recurses := true, apart := false, narrowed := true }
def RelocMovesUptoSaid : Prop := relocMovesUptoRow.holds Tryz.pinned (OpenSpec.upto relocMovesSpec)

/-- 'flagstonelaw13.ResizeTruncates', WHERE WHAT IT READS IS OF BULK AT MOST 1048576: true; the input reads as it did. -/
def resizeTruncatesUptoRow : OpenClaim := { program := "ytjeeejoelmmfmaagreat", sum := "35a4670db2aab8719a030c3bc666030abac1a746d652fd64746e6e5e32e281b1", func := "flagstone/flagstonelaw13.ResizeTruncates", spec := "resizeTruncates", inPlace := ["slices.overlaps[flagstone/api.Span]"], unfollowed := true, recurses := true, apart := false, narrowed := true }
def ResizeTruncatesUptoSaid : Prop := resizeTruncatesUptoRow.holds Tryz.pinned (OpenSpec.upto resizeTruncatesSpec)

/-- 'flagstonelaw13.ResizeAgain', WHERE WHAT IT READS IS OF BULK AT MOST 1048576: true; the input reads as it did. -/
def resizeAgainUptoRow : OpenClaim := { program := "ytjeeejoelmmfmaagreat", sum := "35a4670db2aab8719a030c3bc666030abac1a746d652fd64746e6e5e32e281b1", func := "flagstone/flagstonelaw13.ResizeAgain", spec := "resizeAgain", inPlace := ["slices.overlaps[flagstone/api.Span]"], unfollowed := true, recurses := true, apart := false, narrowed := true }
def ResizeAgainUptoSaid : Prop := resizeAgainUptoRow.holds Tryz.pinned (OpenSpec.upto resizeAgainSpec)

/-- 'flagstonelaw13.ResizeOwn', WHERE WHAT IT READS IS OF BULK AT MOST 1048576: true; the input reads as it did. -/
def resizeOwnUptoRow : OpenClaim := { program := "ytjeeejoelmmfmaagreat", sum := "35a4670db2aab8719a030c3bc666030abac1a746d652fd64746e6e5e32e281b1", func := "flagstone/flagstonelaw13.ResizeOwn", spec := "resizeOwn", inPlace := ["slices.overlaps[flagstone/api.Span]"], unfollowed := true, recurses := true, apart := false, narrowed := true }
def ResizeOwnUptoSaid : Prop := resizeOwnUptoRow.holds Tryz.pinned (OpenSpec.upto resizeOwnSpec)

end Rows
end Go.Proofs.YtjeeejoelmmfmaaGreat
