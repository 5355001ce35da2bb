/-
  No cell of these rows narrows 'for every input' (looked for: loops, veiled, ifaces, maps, wideKeys, modest, calm, conditions, laid).
  DERIVED. THE GIVEN ROWS OF THIS SEAT. 22 by the template 'for every input the law returns true; each argument reads behind the call as it read before'; 0 by the template 'total and deterministic' (their statements: YtkkfkdncddbaeaaTotals.lean).
  GIVEN WITH THE SEED: the statements are not yours to turn. If you find one false, say at which input.
  Laid BY PROGRAM, IN A SANDBOX (cutbox-rows.mjs): the forced cells as the released guide's own fill.sh prints them over the translation 4b22b83dca134bf1… (all of the seat's roots in one cut). By AI agents, Wed Nov 11 2026. No macro, syntax, notation, axiom, sorry.
-/
import Derived.Test.YtkkfkdncddbaeaaChecked
import GoSem.Claim
import GoSem.ClaimJoined
import GoSem.ClaimMapViews
import Derived.JoinedTies
import Derived.KernelRfl
namespace Go.Proofs.Ytkkfkdncddbaeaa
/- THE CELL 'sum', in the pinned program and in every row, IS THE sha256 OF THE DUMP (.gsa) THAT YtkkfkdncddbaeaaProg.lean LOADS. Nothing in Lean hashes anything: it is a label: what it is worth is what the hold of that sum in a sandbox is worth. -/
noncomputable def Try.pinned : Pinned := { name := "ytkkfkdncddbaeaa", sum := "4b22b83dca134bf1de26f890c9cc563631943c94c45333e8d59b0c4b29372feb", checked := Try.checked }
namespace Rows
def none {H : Type} : Left H := { results := [], args := [] }

/-- 'flagstonelaw05.ExtentOwn': WHATEVER THE INPUT: true; the input reads as it did. -/
def extentOwnSpec : ChangeSpec := { name := "extentOwn", fn := fun _ => fun
  | [d1, d2, d3, d4] => { results := [.lit (.bool true)], args := [d1, d2, d3, d4] }
  | _ => none }
def extentOwnRow : OpenClaim := { program := "ytkkfkdncddbaeaa", sum := "4b22b83dca134bf1de26f890c9cc563631943c94c45333e8d59b0c4b29372feb", func := "flagstone/flagstonelaw05.ExtentOwn", spec := "extentOwn", unfollowed := true, recurses := true, apart := false }
def ExtentOwnSaid : Prop := extentOwnRow.holds Try.pinned (OpenSpec.ofChange extentOwnSpec)

/-- ITS FALSE NEIGHBOUR: 'it returns false'. Refute it at one input. -/
def extentOwnWrong : ChangeSpec := { name := "extentOwn", fn := fun _ => fun
  | [d1, d2, d3, d4] => { results := [.lit (.bool false)], args := [d1, d2, d3, d4] }
  | _ => none }
def ExtentOwnWrongFalsely : Prop := extentOwnRow.holds Try.pinned (OpenSpec.ofChange extentOwnWrong)

/-- 'flagstonelaw05.ExtentTwice': WHATEVER THE INPUT: true; the input reads as it did. -/
def extentTwiceSpec : ChangeSpec := { name := "extentTwice", fn := fun _ => fun
  | [d1, d2] => { results := [.lit (.bool true)], args := [d1, d2] }
  | _ => none }
def extentTwiceRow : OpenClaim := { program := "ytkkfkdncddbaeaa", sum := "4b22b83dca134bf1de26f890c9cc563631943c94c45333e8d59b0c4b29372feb", func := "flagstone/flagstonelaw05.ExtentTwice", spec := "extentTwice", unfollowed := true, recurses := true, apart := false }
def ExtentTwiceSaid : Prop := extentTwiceRow.holds Try.pinned (OpenSpec.ofChange extentTwiceSpec)

/-- ITS FALSE NEIGHBOUR: 'it returns false'. Refute it at one input. -/
def extentTwiceWrong : ChangeSpec := { name := "extentTwice", fn := fun _ => fun
  | [d1, d2] => { results := [.lit (.bool false)], args := [d1, d2] }
  | _ => none }
def ExtentTwiceWrongFalsely : Prop := extentTwiceRow.holds Try.pinned (OpenSpec.ofChange extentTwiceWrong)

/-- 'flagstonelaw05.ExtentBack': WHATEVER THE INPUT: true; the input reads as it did. -/
def extentBackSpec : ChangeSpec := { name := "extentBack", fn := fun _ => fun
  | [d1, d2, d3] => { results := [.lit (.bool true)], args := [d1, d2, d3] }
  | _ => none }
def extentBackRow : OpenClaim := { program := "ytkkfkdncddbaeaa", sum := "4b22b83dca134bf1de26f890c9cc563631943c94c45333e8d59b0c4b29372feb", func := "flagstone/flagstonelaw05.ExtentBack", spec := "extentBack", unfollowed := true, recurses := true, apart := false }
def ExtentBackSaid : Prop := extentBackRow.holds Try.pinned (OpenSpec.ofChange extentBackSpec)

/-- ITS FALSE NEIGHBOUR: 'it returns false'. Refute it at one input. -/
def extentBackWrong : ChangeSpec := { name := "extentBack", fn := fun _ => fun
  | [d1, d2, d3] => { results := [.lit (.bool false)], args := [d1, d2, d3] }
  | _ => none }
def ExtentBackWrongFalsely : Prop := extentBackRow.holds Try.pinned (OpenSpec.ofChange extentBackWrong)

/-- 'flagstonelaw05.ExtentCuts': WHATEVER THE INPUT: true; the input reads as it did. -/
def extentCutsSpec : ChangeSpec := { name := "extentCuts", fn := fun _ => fun
  | [d1, d2, d3, d4] => { results := [.lit (.bool true)], args := [d1, d2, d3, d4] }
  | _ => none }
def extentCutsRow : OpenClaim := { program := "ytkkfkdncddbaeaa", sum := "4b22b83dca134bf1de26f890c9cc563631943c94c45333e8d59b0c4b29372feb", func := "flagstone/flagstonelaw05.ExtentCuts", spec := "extentCuts", unfollowed := true, recurses := true, apart := false }
def ExtentCutsSaid : Prop := extentCutsRow.holds Try.pinned (OpenSpec.ofChange extentCutsSpec)

/-- ITS FALSE NEIGHBOUR: 'it returns false'. Refute it at one input. -/
def extentCutsWrong : ChangeSpec := { name := "extentCuts", fn := fun _ => fun
  | [d1, d2, d3, d4] => { results := [.lit (.bool false)], args := [d1, d2, d3, d4] }
  | _ => none }
def ExtentCutsWrongFalsely : Prop := extentCutsRow.holds Try.pinned (OpenSpec.ofChange extentCutsWrong)

/-- 'flagstonelaw05.ExtentPuts': WHATEVER THE INPUT: true; the input reads as it did. -/
def extentPutsSpec : ChangeSpec := { name := "extentPuts", fn := fun _ => fun
  | [d1, d2, d3] => { results := [.lit (.bool true)], args := [d1, d2, d3] }
  | _ => none }
def extentPutsRow : OpenClaim := { program := "ytkkfkdncddbaeaa", sum := "4b22b83dca134bf1de26f890c9cc563631943c94c45333e8d59b0c4b29372feb", func := "flagstone/flagstonelaw05.ExtentPuts", spec := "extentPuts", unfollowed := true, recurses := true, apart := false }
def ExtentPutsSaid : Prop := extentPutsRow.holds Try.pinned (OpenSpec.ofChange extentPutsSpec)

/-- ITS FALSE NEIGHBOUR: 'it returns false'. Refute it at one input. -/
def extentPutsWrong : ChangeSpec := { name := "extentPuts", fn := fun _ => fun
  | [d1, d2, d3] => { results := [.lit (.bool false)], args := [d1, d2, d3] }
  | _ => none }
def ExtentPutsWrongFalsely : Prop := extentPutsRow.holds Try.pinned (OpenSpec.ofChange extentPutsWrong)

/-- 'flagstonelaw05.ExtentFollows': WHATEVER THE INPUT: true; the input reads as it did. -/
def extentFollowsSpec : ChangeSpec := { name := "extentFollows", fn := fun _ => fun
  | [d1, d2, d3, d4] => { results := [.lit (.bool true)], args := [d1, d2, d3, d4] }
  | _ => none }
def extentFollowsRow : OpenClaim := { program := "ytkkfkdncddbaeaa", sum := "4b22b83dca134bf1de26f890c9cc563631943c94c45333e8d59b0c4b29372feb", func := "flagstone/flagstonelaw05.ExtentFollows", spec := "extentFollows", unfollowed := true, recurses := true, apart := false }
def ExtentFollowsSaid : Prop := extentFollowsRow.holds Try.pinned (OpenSpec.ofChange extentFollowsSpec)

/-- ITS FALSE NEIGHBOUR: 'it returns false'. Refute it at one input. -/
def extentFollowsWrong : ChangeSpec := { name := "extentFollows", fn := fun _ => fun
  | [d1, d2, d3, d4] => { results := [.lit (.bool false)], args := [d1, d2, d3, d4] }
  | _ => none }
def ExtentFollowsWrongFalsely : Prop := extentFollowsRow.holds Try.pinned (OpenSpec.ofChange extentFollowsWrong)

/-- 'flagstonelaw05.ExtentLooks': WHATEVER THE INPUT: true; the input reads as it did. -/
def extentLooksSpec : ChangeSpec := { name := "extentLooks", fn := fun _ => fun
  | [d1, d2, d3] => { results := [.lit (.bool true)], args := [d1, d2, d3] }
  | _ => none }
def extentLooksRow : OpenClaim := { program := "ytkkfkdncddbaeaa", sum := "4b22b83dca134bf1de26f890c9cc563631943c94c45333e8d59b0c4b29372feb", func := "flagstone/flagstonelaw05.ExtentLooks", spec := "extentLooks", unfollowed := true, recurses := true, apart := false }
def ExtentLooksSaid : Prop := extentLooksRow.holds Try.pinned (OpenSpec.ofChange extentLooksSpec)

/-- ITS FALSE NEIGHBOUR: 'it returns false'. Refute it at one input. -/
def extentLooksWrong : ChangeSpec := { name := "extentLooks", fn := fun _ => fun
  | [d1, d2, d3] => { results := [.lit (.bool false)], args := [d1, d2, d3] }
  | _ => none }
def ExtentLooksWrongFalsely : Prop := extentLooksRow.holds Try.pinned (OpenSpec.ofChange extentLooksWrong)

/-- 'flagstonelaw05.ExtentTells': WHATEVER THE INPUT: true; the input reads as it did. -/
def extentTellsSpec : ChangeSpec := { name := "extentTells", fn := fun _ => fun
  | [d1, d2, d3, d4] => { results := [.lit (.bool true)], args := [d1, d2, d3, d4] }
  | _ => none }
def extentTellsRow : OpenClaim := { program := "ytkkfkdncddbaeaa", sum := "4b22b83dca134bf1de26f890c9cc563631943c94c45333e8d59b0c4b29372feb", func := "flagstone/flagstonelaw05.ExtentTells", spec := "extentTells", unfollowed := true, recurses := true, apart := false }
def ExtentTellsSaid : Prop := extentTellsRow.holds Try.pinned (OpenSpec.ofChange extentTellsSpec)

/-- ITS FALSE NEIGHBOUR: 'it returns false'. Refute it at one input. -/
def extentTellsWrong : ChangeSpec := { name := "extentTells", fn := fun _ => fun
  | [d1, d2, d3, d4] => { results := [.lit (.bool false)], args := [d1, d2, d3, d4] }
  | _ => none }
def ExtentTellsWrongFalsely : Prop := extentTellsRow.holds Try.pinned (OpenSpec.ofChange extentTellsWrong)

/-- 'flagstonelaw06.FreeFits': WHATEVER THE INPUT: true; the input reads as it did. -/
def freeFitsSpec : ChangeSpec := { name := "freeFits", fn := fun _ => fun
  | [d1, d2, d3] => { results := [.lit (.bool true)], args := [d1, d2, d3] }
  | _ => none }
def freeFitsRow : OpenClaim := { program := "ytkkfkdncddbaeaa", sum := "4b22b83dca134bf1de26f890c9cc563631943c94c45333e8d59b0c4b29372feb", func := "flagstone/flagstonelaw06.FreeFits", spec := "freeFits", inPlace := ["slices.overlaps[flagstone/api.Span]"], unfollowed := true, recurses := true, apart := false }
def FreeFitsSaid : Prop := freeFitsRow.holds Try.pinned (OpenSpec.ofChange freeFitsSpec)

/-- ITS FALSE NEIGHBOUR: 'it returns false'. Refute it at one input. -/
def freeFitsWrong : ChangeSpec := { name := "freeFits", fn := fun _ => fun
  | [d1, d2, d3] => { results := [.lit (.bool false)], args := [d1, d2, d3] }
  | _ => none }
def FreeFitsWrongFalsely : Prop := freeFitsRow.holds Try.pinned (OpenSpec.ofChange freeFitsWrong)

/-- 'flagstonelaw06.FreeBack': WHATEVER THE INPUT: true; the input reads as it did. -/
def freeBackSpec : ChangeSpec := { name := "freeBack", fn := fun _ => fun
  | [d1, d2, d3] => { results := [.lit (.bool true)], args := [d1, d2, d3] }
  | _ => none }
def freeBackRow : OpenClaim := { program := "ytkkfkdncddbaeaa", sum := "4b22b83dca134bf1de26f890c9cc563631943c94c45333e8d59b0c4b29372feb", func := "flagstone/flagstonelaw06.FreeBack", spec := "freeBack", inPlace := ["slices.overlaps[flagstone/api.Span]"], unfollowed := true, recurses := true, apart := false }
def FreeBackSaid : Prop := freeBackRow.holds Try.pinned (OpenSpec.ofChange freeBackSpec)

/-- ITS FALSE NEIGHBOUR: 'it returns false'. Refute it at one input. -/
def freeBackWrong : ChangeSpec := { name := "freeBack", fn := fun _ => fun
  | [d1, d2, d3] => { results := [.lit (.bool false)], args := [d1, d2, d3] }
  | _ => none }
def FreeBackWrongFalsely : Prop := freeBackRow.holds Try.pinned (OpenSpec.ofChange freeBackWrong)

/-- 'flagstonelaw06.FreeMerges': WHATEVER THE INPUT: true; the input reads as it did. -/
def freeMergesSpec : ChangeSpec := { name := "freeMerges", fn := fun _ => fun
  | [d1, d2, d3] => { results := [.lit (.bool true)], args := [d1, d2, d3] }
  | _ => none }
def freeMergesRow : OpenClaim := { program := "ytkkfkdncddbaeaa", sum := "4b22b83dca134bf1de26f890c9cc563631943c94c45333e8d59b0c4b29372feb", func := "flagstone/flagstonelaw06.FreeMerges", spec := "freeMerges", inPlace := ["slices.overlaps[flagstone/api.Span]"], unfollowed := true, recurses := true, apart := false }
def FreeMergesSaid : Prop := freeMergesRow.holds Try.pinned (OpenSpec.ofChange freeMergesSpec)

/-- ITS FALSE NEIGHBOUR: 'it returns false'. Refute it at one input. -/
def freeMergesWrong : ChangeSpec := { name := "freeMerges", fn := fun _ => fun
  | [d1, d2, d3] => { results := [.lit (.bool false)], args := [d1, d2, d3] }
  | _ => none }
def FreeMergesWrongFalsely : Prop := freeMergesRow.holds Try.pinned (OpenSpec.ofChange freeMergesWrong)

/-- 'flagstonelaw06.FreeGrows': WHATEVER THE INPUT: true; the input reads as it did. -/
def freeGrowsSpec : ChangeSpec := { name := "freeGrows", fn := fun _ => fun
  | [d1, d2] => { results := [.lit (.bool true)], args := [d1, d2] }
  | _ => none }
def freeGrowsRow : OpenClaim := { program := "ytkkfkdncddbaeaa", sum := "4b22b83dca134bf1de26f890c9cc563631943c94c45333e8d59b0c4b29372feb", func := "flagstone/flagstonelaw06.FreeGrows", spec := "freeGrows", inPlace := ["slices.overlaps[flagstone/api.Span]"], unfollowed := true, recurses := true, apart := false }
def FreeGrowsSaid : Prop := freeGrowsRow.holds Try.pinned (OpenSpec.ofChange freeGrowsSpec)

/-- ITS FALSE NEIGHBOUR: 'it returns false'. Refute it at one input. -/
def freeGrowsWrong : ChangeSpec := { name := "freeGrows", fn := fun _ => fun
  | [d1, d2] => { results := [.lit (.bool false)], args := [d1, d2] }
  | _ => none }
def FreeGrowsWrongFalsely : Prop := freeGrowsRow.holds Try.pinned (OpenSpec.ofChange freeGrowsWrong)

/-- 'flagstonelaw05.ExtentMoves': WHATEVER THE INPUT: true; the input reads as it did. -/
def extentMovesSpec : ChangeSpec := { name := "extentMoves", fn := fun _ => fun
  | [d1, d2, d3] => { results := [.lit (.bool true)], args := [d1, d2, d3] }
  | _ => none }
def extentMovesRow : OpenClaim := { program := "ytkkfkdncddbaeaa", sum := "4b22b83dca134bf1de26f890c9cc563631943c94c45333e8d59b0c4b29372feb", func := "flagstone/flagstonelaw05.ExtentMoves", spec := "extentMoves", unfollowed := true, recurses := true, apart := false }
def ExtentMovesSaid : Prop := extentMovesRow.holds Try.pinned (OpenSpec.ofChange extentMovesSpec)

/-- ITS FALSE NEIGHBOUR: 'it returns false'. Refute it at one input. -/
def extentMovesWrong : ChangeSpec := { name := "extentMoves", fn := fun _ => fun
  | [d1, d2, d3] => { results := [.lit (.bool false)], args := [d1, d2, d3] }
  | _ => none }
def ExtentMovesWrongFalsely : Prop := extentMovesRow.holds Try.pinned (OpenSpec.ofChange extentMovesWrong)

/-- 'flagstonelaw09.RefsWho': WHATEVER THE INPUT: true; the input reads as it did. -/
def refsWhoSpec : ChangeSpec := { name := "refsWho", fn := fun _ => fun
  | [d1, d2] => { results := [.lit (.bool true)], args := [d1, d2] }
  | _ => none }
def refsWhoRow : OpenClaim := { program := "ytkkfkdncddbaeaa", sum := "4b22b83dca134bf1de26f890c9cc563631943c94c45333e8d59b0c4b29372feb", func := "flagstone/flagstonelaw09.RefsWho", spec := "refsWho", unfollowed := true, recurses := true, apart := false }
def RefsWhoSaid : Prop := refsWhoRow.holds Try.pinned (OpenSpec.ofChange refsWhoSpec)

/-- ITS FALSE NEIGHBOUR: 'it returns false'. Refute it at one input. -/
def refsWhoWrong : ChangeSpec := { name := "refsWho", fn := fun _ => fun
  | [d1, d2] => { results := [.lit (.bool false)], args := [d1, d2] }
  | _ => none }
def RefsWhoWrongFalsely : Prop := refsWhoRow.holds Try.pinned (OpenSpec.ofChange refsWhoWrong)

/-- 'flagstonelaw09.RefsShared': WHATEVER THE INPUT: true; the input reads as it did. -/
def refsSharedSpec : ChangeSpec := { name := "refsShared", fn := fun _ => fun
  | [d1, d2] => { results := [.lit (.bool true)], args := [d1, d2] }
  | _ => none }
def refsSharedRow : OpenClaim := { program := "ytkkfkdncddbaeaa", sum := "4b22b83dca134bf1de26f890c9cc563631943c94c45333e8d59b0c4b29372feb", func := "flagstone/flagstonelaw09.RefsShared", spec := "refsShared", unfollowed := true, recurses := true, apart := false }
def RefsSharedSaid : Prop := refsSharedRow.holds Try.pinned (OpenSpec.ofChange refsSharedSpec)

/-- ITS FALSE NEIGHBOUR: 'it returns false'. Refute it at one input. -/
def refsSharedWrong : ChangeSpec := { name := "refsShared", fn := fun _ => fun
  | [d1, d2] => { results := [.lit (.bool false)], args := [d1, d2] }
  | _ => none }
def RefsSharedWrongFalsely : Prop := refsSharedRow.holds Try.pinned (OpenSpec.ofChange refsSharedWrong)

/-- 'flagstonelaw09.RefsCounts': WHATEVER THE INPUT: true; the input reads as it did. -/
def refsCountsSpec : ChangeSpec := { name := "refsCounts", fn := fun _ => fun
  | [d1, d2] => { results := [.lit (.bool true)], args := [d1, d2] }
  | _ => none }
def refsCountsRow : OpenClaim := { program := "ytkkfkdncddbaeaa", sum := "4b22b83dca134bf1de26f890c9cc563631943c94c45333e8d59b0c4b29372feb", func := "flagstone/flagstonelaw09.RefsCounts", spec := "refsCounts", unfollowed := true, recurses := true, apart := false }
def RefsCountsSaid : Prop := refsCountsRow.holds Try.pinned (OpenSpec.ofChange refsCountsSpec)

/-- ITS FALSE NEIGHBOUR: 'it returns false'. Refute it at one input. -/
def refsCountsWrong : ChangeSpec := { name := "refsCounts", fn := fun _ => fun
  | [d1, d2] => { results := [.lit (.bool false)], args := [d1, d2] }
  | _ => none }
def RefsCountsWrongFalsely : Prop := refsCountsRow.holds Try.pinned (OpenSpec.ofChange refsCountsWrong)

/-- 'flagstonelaw09.RefsTells': WHATEVER THE INPUT: true; the input reads as it did. -/
def refsTellsSpec : ChangeSpec := { name := "refsTells", fn := fun _ => fun
  | [d1, d2] => { results := [.lit (.bool true)], args := [d1, d2] }
  | _ => none }
def refsTellsRow : OpenClaim := { program := "ytkkfkdncddbaeaa", sum := "4b22b83dca134bf1de26f890c9cc563631943c94c45333e8d59b0c4b29372feb", func := "flagstone/flagstonelaw09.RefsTells", spec := "refsTells", unfollowed := true, recurses := true, apart := false }
def RefsTellsSaid : Prop := refsTellsRow.holds Try.pinned (OpenSpec.ofChange refsTellsSpec)

/-- ITS FALSE NEIGHBOUR: 'it returns false'. Refute it at one input. -/
def refsTellsWrong : ChangeSpec := { name := "refsTells", fn := fun _ => fun
  | [d1, d2] => { results := [.lit (.bool false)], args := [d1, d2] }
  | _ => none }
def RefsTellsWrongFalsely : Prop := refsTellsRow.holds Try.pinned (OpenSpec.ofChange refsTellsWrong)

/-- 'flagstonelaw09.RefsBack': WHATEVER THE INPUT: true; the input reads as it did. -/
def refsBackSpec : ChangeSpec := { name := "refsBack", fn := fun _ => fun
  | [d] => { results := [.lit (.bool true)], args := [d] }
  | _ => none }
def refsBackRow : OpenClaim := { program := "ytkkfkdncddbaeaa", sum := "4b22b83dca134bf1de26f890c9cc563631943c94c45333e8d59b0c4b29372feb", func := "flagstone/flagstonelaw09.RefsBack", spec := "refsBack", inPlace := ["slices.overlaps[flagstone/refs.Map]"], unfollowed := true, recurses := true, apart := false }
def RefsBackSaid : Prop := refsBackRow.holds Try.pinned (OpenSpec.ofChange refsBackSpec)

/-- ITS FALSE NEIGHBOUR: 'it returns false'. Refute it at one input. -/
def refsBackWrong : ChangeSpec := { name := "refsBack", fn := fun _ => fun
  | [d] => { results := [.lit (.bool false)], args := [d] }
  | _ => none }
def RefsBackWrongFalsely : Prop := refsBackRow.holds Try.pinned (OpenSpec.ofChange refsBackWrong)

/-- 'flagstonelaw09.RefsAgain': WHATEVER THE INPUT: true; the input reads as it did. -/
def refsAgainSpec : ChangeSpec := { name := "refsAgain", fn := fun _ => fun
  | [d] => { results := [.lit (.bool true)], args := [d] }
  | _ => none }
def refsAgainRow : OpenClaim := { program := "ytkkfkdncddbaeaa", sum := "4b22b83dca134bf1de26f890c9cc563631943c94c45333e8d59b0c4b29372feb", func := "flagstone/flagstonelaw09.RefsAgain", spec := "refsAgain", inPlace := ["slices.overlaps[flagstone/refs.Map]"], unfollowed := true, recurses := true, apart := false }
def RefsAgainSaid : Prop := refsAgainRow.holds Try.pinned (OpenSpec.ofChange refsAgainSpec)

/-- ITS FALSE NEIGHBOUR: 'it returns false'. Refute it at one input. -/
def refsAgainWrong : ChangeSpec := { name := "refsAgain", fn := fun _ => fun
  | [d] => { results := [.lit (.bool false)], args := [d] }
  | _ => none }
def RefsAgainWrongFalsely : Prop := refsAgainRow.holds Try.pinned (OpenSpec.ofChange refsAgainWrong)

/-- 'flagstonelaw09.RefsOwn': WHATEVER THE INPUT: true; the input reads as it did. -/
def refsOwnSpec : ChangeSpec := { name := "refsOwn", fn := fun _ => fun
  | [d] => { results := [.lit (.bool true)], args := [d] }
  | _ => none }
def refsOwnRow : OpenClaim := { program := "ytkkfkdncddbaeaa", sum := "4b22b83dca134bf1de26f890c9cc563631943c94c45333e8d59b0c4b29372feb", func := "flagstone/flagstonelaw09.RefsOwn", spec := "refsOwn", inPlace := ["slices.overlaps[flagstone/refs.Map]"], unfollowed := true, recurses := true, apart := false }
def RefsOwnSaid : Prop := refsOwnRow.holds Try.pinned (OpenSpec.ofChange refsOwnSpec)

/-- ITS FALSE NEIGHBOUR: 'it returns false'. Refute it at one input. -/
def refsOwnWrong : ChangeSpec := { name := "refsOwn", fn := fun _ => fun
  | [d] => { results := [.lit (.bool false)], args := [d] }
  | _ => none }
def RefsOwnWrongFalsely : Prop := refsOwnRow.holds Try.pinned (OpenSpec.ofChange refsOwnWrong)

/-- 'flagstonelaw06.FreeAll': WHATEVER THE INPUT: true; the input reads as it did. -/
def freeAllSpec : ChangeSpec := { name := "freeAll", fn := fun _ => fun
  | [d1, d2, d3] => { results := [.lit (.bool true)], args := [d1, d2, d3] }
  | _ => none }
def freeAllRow : OpenClaim := { program := "ytkkfkdncddbaeaa", sum := "4b22b83dca134bf1de26f890c9cc563631943c94c45333e8d59b0c4b29372feb", func := "flagstone/flagstonelaw06.FreeAll", spec := "freeAll", inPlace := ["slices.overlaps[flagstone/api.Span]"], unfollowed := true, recurses := true, apart := false }
def FreeAllSaid : Prop := freeAllRow.holds Try.pinned (OpenSpec.ofChange freeAllSpec)

/-- ITS FALSE NEIGHBOUR: 'it returns false'. Refute it at one input. -/
def freeAllWrong : ChangeSpec := { name := "freeAll", fn := fun _ => fun
  | [d1, d2, d3] => { results := [.lit (.bool false)], args := [d1, d2, d3] }
  | _ => none }
def FreeAllWrongFalsely : Prop := freeAllRow.holds Try.pinned (OpenSpec.ofChange freeAllWrong)

/-- 'flagstonelaw06.FreeSizes': WHATEVER THE INPUT: true; the input reads as it did. -/
def freeSizesSpec : ChangeSpec := { name := "freeSizes", fn := fun _ => fun
  | [d1, d2, d3] => { results := [.lit (.bool true)], args := [d1, d2, d3] }
  | _ => none }
def freeSizesRow : OpenClaim := { program := "ytkkfkdncddbaeaa", sum := "4b22b83dca134bf1de26f890c9cc563631943c94c45333e8d59b0c4b29372feb", func := "flagstone/flagstonelaw06.FreeSizes", spec := "freeSizes", inPlace := ["slices.overlaps[flagstone/api.Span]"], unfollowed := true, recurses := true, apart := false }
def FreeSizesSaid : Prop := freeSizesRow.holds Try.pinned (OpenSpec.ofChange freeSizesSpec)

/-- ITS FALSE NEIGHBOUR: 'it returns false'. Refute it at one input. -/
def freeSizesWrong : ChangeSpec := { name := "freeSizes", fn := fun _ => fun
  | [d1, d2, d3] => { results := [.lit (.bool false)], args := [d1, d2, d3] }
  | _ => none }
def FreeSizesWrongFalsely : Prop := freeSizesRow.holds Try.pinned (OpenSpec.ofChange freeSizesWrong)

/- THE SECOND FORM. 'bulk': how many values and letters a reading holds, each counted each time it is reached (what is shared counts as often as it is met; a slice's spare places count too). A statement '..UptoSaid' is the law's where the arguments, and the package variables that the reading takes, are together of bulk at most 1048576: NARROWER than '..Said'. Prove '..Said' where nothing that the law and all that it calls make is longer than what came in: it says more and counts as full. Else prove '..UptoSaid'. A law counts once. -/
mutual
def uptoBulk {H : Type} : DataW H → Nat
  | .lit (.string bytes) => bytes.length + 1
  | .lit _ => 1
  | .nil => 1
  | .ptr d => uptoBulk d + 1
  | .slice elems spare => uptoBulkAll elems + uptoBulkAll spare + 1
  | .agg parts => uptoBulkAll parts + 1
  | .iface _ d => uptoBulk d + 1
  | .map entries => uptoBulkEntries entries + 1
  | .held _ => 1
def uptoBulkAll {H : Type} : List (DataW H) → Nat
  | [] => 0
  | d :: r => uptoBulk d + uptoBulkAll r
def uptoBulkEntries {H : Type} : List (Lit × DataW H) → Nat
  | [] => 0
  | x :: r => uptoBulkEntry x + uptoBulkEntries r
def uptoBulkEntry {H : Type} : Lit × DataW H → Nat
  | (.string bytes, d) => bytes.length + uptoBulk d + 1
  | (_, d) => uptoBulk d + 1
 end
def uptoSmall : (H : Type) → List (DataW H) → Bool := fun _ ds => decide (uptoBulkAll ds ≤ 1048576)
def OpenSpec.upto (s : _root_.Go.ChangeSpec) : _root_.Go.OpenSpec := { _root_.Go.OpenSpec.ofChange s with cond := some uptoSmall }

/-- 'flagstonelaw05.ExtentOwn', WHERE WHAT IT READS IS OF BULK AT MOST 1048576: true; the input reads as it did. -/
def extentOwnUptoRow : OpenClaim := { program := "ytkkfkdncddbaeaa", sum := "4b22b83dca134bf1de26f890c9cc563631943c94c45333e8d59b0c4b29372feb", func := "flagstone/flagstonelaw05.ExtentOwn", spec := "extentOwn", unfollowed := true, recurses := true, apart := false, narrowed := true }
def ExtentOwnUptoSaid : Prop := extentOwnUptoRow.holds Try.pinned (OpenSpec.upto extentOwnSpec)

/-- 'flagstonelaw05.ExtentTwice', WHERE WHAT IT READS IS OF BULK AT MOST 1048576: true; the input reads as it did. -/
def extentTwiceUptoRow : OpenClaim := { program := "ytkkfkdncddbaeaa", sum := "4b22b83dca134bf1de26f890c9cc563631943c94c45333e8d59b0c4b29372feb", func := "flagstone/flagstonelaw05.ExtentTwice", spec := "extentTwice", unfollowed := true, recurses := true, apart := false, narrowed := true }
def ExtentTwiceUptoSaid : Prop := extentTwiceUptoRow.holds Try.pinned (OpenSpec.upto extentTwiceSpec)

/-- 'flagstonelaw05.ExtentBack', WHERE WHAT IT READS IS OF BULK AT MOST 1048576: true; the input reads as it did. -/
def extentBackUptoRow : OpenClaim := { program := "ytkkfkdncddbaeaa", sum := "4b22b83dca134bf1de26f890c9cc563631943c94c45333e8d59b0c4b29372feb", func := "flagstone/flagstonelaw05.ExtentBack", spec := "extentBack", unfollowed := true, recurses := true, apart := false, narrowed := true }
def ExtentBackUptoSaid : Prop := extentBackUptoRow.holds Try.pinned (OpenSpec.upto extentBackSpec)

/-- 'flagstonelaw05.ExtentCuts', WHERE WHAT IT READS IS OF BULK AT MOST 1048576: true; the input reads as it did. -/
def extentCutsUptoRow : OpenClaim := { program := "ytkkfkdncddbaeaa", sum := "4b22b83dca134bf1de26f890c9cc563631943c94c45333e8d59b0c4b29372feb", func := "flagstone/flagstonelaw05.ExtentCuts", spec := "extentCuts", unfollowed := true, recurses := true, apart := false, narrowed := true }
def ExtentCutsUptoSaid : Prop := extentCutsUptoRow.holds Try.pinned (OpenSpec.upto extentCutsSpec)

/-- 'flagstonelaw05.ExtentPuts', WHERE WHAT IT READS IS OF BULK AT MOST 1048576: true; the input reads as it did. -/
def extentPutsUptoRow : OpenClaim := { program := "ytkkfkdncddbaeaa", sum := "4b22b83dca134bf1de26f890c9cc563631943c94c45333e8d59b0c4b29372feb", func := "flagstone/flagstonelaw05.ExtentPuts", spec := "extentPuts", unfollowed := true, recurses := true, apart := false, narrowed := true }
def ExtentPutsUptoSaid : Prop := extentPutsUptoRow.holds Try.pinned (OpenSpec.upto extentPutsSpec)

/-- 'flagstonelaw05.ExtentFollows', WHERE WHAT IT READS IS OF BULK AT MOST 1048576: true; the input reads as it did. -/
def extentFollowsUptoRow : OpenClaim := { program := "ytkkfkdncddbaeaa", sum := "4b22b83dca134bf1de26f890c9cc563631943c94c45333e8d59b0c4b29372feb", func := "flagstone/flagstonelaw05.ExtentFollows", spec := "extentFollows", unfollowed := true, recurses := true, apart := false, narrowed := true }
def ExtentFollowsUptoSaid : Prop := extentFollowsUptoRow.holds Try.pinned (OpenSpec.upto extentFollowsSpec)

/-- 'flagstonelaw05.ExtentLooks', WHERE WHAT IT READS IS OF BULK AT MOST 1048576: true; the input reads as it did. -/
def extentLooksUptoRow : OpenClaim := { program := "ytkkfkdncddbaeaa", sum := "4b22b83dca134bf1de26f890c9cc563631943c94c45333e8d59b0c4b29372feb", func := "flagstone/flagstonelaw05.ExtentLooks", spec := "extentLooks", unfollowed := true, recurses := true, apart := false, narrowed := true }
def ExtentLooksUptoSaid : Prop := extentLooksUptoRow.holds Try.pinned (OpenSpec.upto extentLooksSpec)

/-- 'flagstonelaw05.ExtentTells', WHERE WHAT IT READS IS OF BULK AT MOST 1048576: true; the input reads as it did. -/
def extentTellsUptoRow : OpenClaim := { program := "ytkkfkdncddbaeaa", sum := "4b22b83dca134bf1de26f890c9cc563631943c94c45333e8d59b0c4b29372feb", func := "flagstone/flagstonelaw05.ExtentTells", spec := "extentTells", unfollowed := true, recurses := true, apart := false, narrowed := true }
def ExtentTellsUptoSaid : Prop := extentTellsUptoRow.holds Try.pinned (OpenSpec.upto extentTellsSpec)

/-- 'flagstonelaw06.FreeFits', WHERE WHAT IT READS IS OF BULK AT MOST 1048576: true; the input reads as it did. -/
def freeFitsUptoRow : OpenClaim := { program := "ytkkfkdncddbaeaa", sum := "4b22b83dca134bf1de26f890c9cc563631943c94c45333e8d59b0c4b29372feb", func := "flagstone/flagstonelaw06.FreeFits", spec := "freeFits", inPlace := ["slices.overlaps[flagstone/api.Span]"], unfollowed := true, recurses := true, apart := false, narrowed := true }
def FreeFitsUptoSaid : Prop := freeFitsUptoRow.holds Try.pinned (OpenSpec.upto freeFitsSpec)

/-- 'flagstonelaw06.FreeBack', WHERE WHAT IT READS IS OF BULK AT MOST 1048576: true; the input reads as it did. -/
def freeBackUptoRow : OpenClaim := { program := "ytkkfkdncddbaeaa", sum := "4b22b83dca134bf1de26f890c9cc563631943c94c45333e8d59b0c4b29372feb", func := "flagstone/flagstonelaw06.FreeBack", spec := "freeBack", inPlace := ["slices.overlaps[flagstone/api.Span]"], unfollowed := true, recurses := true, apart := false, narrowed := true }
def FreeBackUptoSaid : Prop := freeBackUptoRow.holds Try.pinned (OpenSpec.upto freeBackSpec)

/-- 'flagstonelaw06.FreeMerges', WHERE WHAT IT READS IS OF BULK AT MOST 1048576: true; the input reads as it did. -/
def freeMergesUptoRow : OpenClaim := { program := "ytkkfkdncddbaeaa", sum := "4b22b83dca134bf1de26f890c9cc563631943c94c45333e8d59b0c4b29372feb", func := "flagstone/flagstonelaw06.FreeMerges", spec := "freeMerges", inPlace := ["slices.overlaps[flagstone/api.Span]"], unfollowed := true, recurses := true, apart := false, narrowed := true }
def FreeMergesUptoSaid : Prop := freeMergesUptoRow.holds Try.pinned (OpenSpec.upto freeMergesSpec)

/-- 'flagstonelaw06.FreeGrows', WHERE WHAT IT READS IS OF BULK AT MOST 1048576: true; the input reads as it did. -/
def freeGrowsUptoRow : OpenClaim := { program := "ytkkfkdncddbaeaa", sum := "4b22b83dca134bf1de26f890c9cc563631943c94c45333e8d59b0c4b29372feb", func := "flagstone/flagstonelaw06.FreeGrows", spec := "freeGrows", inPlace := ["slices.overlaps[flagstone/api.Span]"], unfollowed := true, recurses := true, apart := false, narrowed := true }
def FreeGrowsUptoSaid : Prop := freeGrowsUptoRow.holds Try.pinned (OpenSpec.upto freeGrowsSpec)

/-- 'flagstonelaw05.ExtentMoves', WHERE WHAT IT READS IS OF BULK AT MOST 1048576: true; the input reads as it did. -/
def extentMovesUptoRow : OpenClaim := { program := "ytkkfkdncddbaeaa", sum := "4b22b83dca134bf1de26f890c9cc563631943c94c45333e8d59b0c4b29372feb", func := "flagstone/flagstonelaw05.ExtentMoves", spec := "extentMoves", unfollowed := true, recurses := true, apart := false, narrowed := true }
def ExtentMovesUptoSaid : Prop := extentMovesUptoRow.holds Try.pinned (OpenSpec.upto extentMovesSpec)

/-- 'flagstonelaw09.RefsWho', WHERE WHAT IT READS IS OF BULK AT MOST 1048576: true; the input reads as it did. -/
def refsWhoUptoRow : OpenClaim := { program := "ytkkfkdncddbaeaa", sum := "4b22b83dca134bf1de26f890c9cc563631943c94c45333e8d59b0c4b29372feb", func := "flagstone/flagstonelaw09.RefsWho", spec := "refsWho", unfollowed := true, recurses := true, apart := false, narrowed := true }
def RefsWhoUptoSaid : Prop := refsWhoUptoRow.holds Try.pinned (OpenSpec.upto refsWhoSpec)

/-- 'flagstonelaw09.RefsShared', WHERE WHAT IT READS IS OF BULK AT MOST 1048576: true; the input reads as it did. -/
def refsSharedUptoRow : OpenClaim := { program := "ytkkfkdncddbaeaa", sum := "4b22b83dca134bf1de26f890c9cc563631943c94c45333e8d59b0c4b29372feb", func := "flagstone/flagstonelaw09.RefsShared", spec := "refsShared", unfollowed := true, recurses := true, apart := false, narrowed := true }
def RefsSharedUptoSaid : Prop := refsSharedUptoRow.holds Try.pinned (OpenSpec.upto refsSharedSpec)

/-- 'flagstonelaw09.RefsCounts', WHERE WHAT IT READS IS OF BULK AT MOST 1048576: true; the input reads as it did. -/
def refsCountsUptoRow : OpenClaim := { program := "ytkkfkdncddbaeaa", sum := "4b22b83dca134bf1de26f890c9cc563631943c94c45333e8d59b0c4b29372feb", func := "flagstone/flagstonelaw09.RefsCounts", spec := "refsCounts", unfollowed := true, recurses := true, apart := false, narrowed := true }
def RefsCountsUptoSaid : Prop := refsCountsUptoRow.holds Try.pinned (OpenSpec.upto refsCountsSpec)

/-- 'flagstonelaw09.RefsTells', WHERE WHAT IT READS IS OF BULK AT MOST 1048576: true; the input reads as it did. -/
def refsTellsUptoRow : OpenClaim := { program := "ytkkfkdncddbaeaa", sum := "4b22b83dca134bf1de26f890c9cc563631943c94c45333e8d59b0c4b29372feb", func := "flagstone/flagstonelaw09.RefsTells", spec := "refsTells", unfollowed := true, recurses := true, apart := false, narrowed := true }
def RefsTellsUptoSaid : Prop := refsTellsUptoRow.holds Try.pinned (OpenSpec.upto refsTellsSpec)

/-- 'flagstonelaw09.RefsBack', WHERE WHAT IT READS IS OF BULK AT MOST 1048576: true; the input reads as it did. -/
def refsBackUptoRow : OpenClaim := { program := "ytkkfkdncddbaeaa", sum := "4b22b83dca134bf1de26f890c9cc563631943c94c45333e8d59b0c4b29372feb", func := "flagstone/flagstonelaw09.RefsBack", spec := "refsBack", inPlace := ["slices.overlaps[flagstone/refs.Map]"], unfollowed := true, recurses := true, apart := false, narrowed := true }
def RefsBackUptoSaid : Prop := refsBackUptoRow.holds Try.pinned (OpenSpec.upto refsBackSpec)

/-- 'flagstonelaw09.RefsAgain', WHERE WHAT IT READS IS OF BULK AT MOST 1048576: true; the input reads as it did. -/
def refsAgainUptoRow : OpenClaim := { program := "ytkkfkdncddbaeaa", sum := "4b22b83dca134bf1de26f890c9cc563631943c94c45333e8d59b0c4b29372feb", func := "flagstone/flagstonelaw09.RefsAgain", spec := "refsAgain", inPlace := ["slices.overlaps[flagstone/refs.Map]"], unfollowed := true, recurses := true, apart := false, narrowed := true }
def RefsAgainUptoSaid : Prop := refsAgainUptoRow.holds Try.pinned (OpenSpec.upto refsAgainSpec)

/-- 'flagstonelaw09.RefsOwn', WHERE WHAT IT READS IS OF BULK AT MOST 1048576: true; the input reads as it did. -/
def refsOwnUptoRow : OpenClaim := { program := "ytkkfkdncddbaeaa", sum := "4b22b83dca134bf1de26f890c9cc563631943c94c45333e8d59b0c4b29372feb", func := "flagstone/flagstonelaw09.RefsOwn", spec := "refsOwn", inPlace := ["slices.overlaps[flagstone/refs.Map]"], unfollowed := true, recurses := true, apart := false, narrowed := true }
def RefsOwnUptoSaid : Prop := refsOwnUptoRow.holds Try.pinned (OpenSpec.upto refsOwnSpec)

/-- 'flagstonelaw06.FreeAll', WHERE WHAT IT READS IS OF BULK AT MOST 1048576: true; the input reads as it did. -/
def freeAllUptoRow : OpenClaim := { program := "ytkkfkdncddbaeaa", sum := "4b22b83dca134bf1de26f890c9cc563631943c94c45333e8d59b0c4b29372feb", func := "flagstone/flagstonelaw06.FreeAll", spec := "freeAll", inPlace := ["slices.overlaps[flagstone/api.Span]"], unfollowed := true, recurses := true, apart := false, narrowed := true }
def FreeAllUptoSaid : Prop := freeAllUptoRow.holds Try.pinned (OpenSpec.upto freeAllSpec)

/-- 'flagstonelaw06.FreeSizes', WHERE WHAT IT READS IS OF BULK AT MOST 1048576: true; the input reads as it did. -/
def freeSizesUptoRow : OpenClaim := { program := "ytkkfkdncddbaeaa", sum := "4b22b83dca134bf1de26f890c9cc563631943c94c45333e8d59b0c4b29372feb", func := "flagstone/flagstonelaw06.FreeSizes", spec := "freeSizes", inPlace := ["slices.overlaps[flagstone/api.Span]"], unfollowed := true, recurses := true, apart := false, narrowed := true }
def FreeSizesUptoSaid : Prop := freeSizesUptoRow.holds Try.pinned (OpenSpec.upto freeSizesSpec)

end Rows
end Go.Proofs.Ytkkfkdncddbaeaa
