/-
  No cell of these rows narrows 'for every input' (looked for: loops, veiled, ifaces, maps, wideKeys, modest, calm, conditions, laid).
  DERIVED. THE GIVEN ROWS OF THIS SEAT. 11 by the template 'for every input the law returns true; each argument reads behind the call as it read before'; 0 by the template 'total and deterministic' (their statements: YtodbkoipebnheaaTotals.lean).
  GIVEN WITH THE SEED: the statements are not yours to turn. If you find one false, say at which input.
  Laid BY PROGRAM, IN A SANDBOX (cutbox-rows.mjs): the forced cells as the released guide's own fill.sh prints them over the translation 504c9ccf38f5488a… (all of the seat's roots in one cut). By AI agents, Wed Nov 11 2026. No macro, syntax, notation, axiom, sorry.
-/
import Derived.Test.YtodbkoipebnheaaChecked
import GoSem.Claim
import GoSem.ClaimJoined
import GoSem.ClaimMapViews
import Derived.JoinedTies
import Derived.KernelRfl
namespace Go.Proofs.Ytodbkoipebnheaa
/- THE CELL 'sum', in the pinned program and in every row, IS THE sha256 OF THE DUMP (.gsa) THAT YtodbkoipebnheaaProg.lean LOADS. Nothing in Lean hashes anything: it is a label: what it is worth is what the hold of that sum in a sandbox is worth. -/
noncomputable def Try.pinned : Pinned := { name := "ytodbkoipebnheaa", sum := "504c9ccf38f5488a4a15abc5557bc322eea0c30b445d61ee6d4d8cd9e25172be", checked := Try.checked }
namespace Rows
def none {H : Type} : Left H := { results := [], args := [] }

/-- 'laws.FnExactCountIdeals': WHATEVER THE INPUT: true; the input reads as it did. -/
def fnExactCountIdealsSpec : ChangeSpec := { name := "fnExactCountIdeals", fn := fun _ => fun
  | [d] => { results := [.lit (.bool true)], args := [d] }
  | _ => none }
def fnExactCountIdealsRow : OpenClaim := { program := "ytodbkoipebnheaa", sum := "504c9ccf38f5488a4a15abc5557bc322eea0c30b445d61ee6d4d8cd9e25172be", func := "loop.example/g01138/laws.FnExactCountIdeals", spec := "fnExactCountIdeals", unfollowed := true, recurses := true, apart := false }
def FnExactCountIdealsSaid : Prop := fnExactCountIdealsRow.holds Try.pinned (OpenSpec.ofChange fnExactCountIdealsSpec)

/-- ITS FALSE NEIGHBOUR: 'it returns false'. Refute it at one input. -/
def fnExactCountIdealsWrong : ChangeSpec := { name := "fnExactCountIdeals", fn := fun _ => fun
  | [d] => { results := [.lit (.bool false)], args := [d] }
  | _ => none }
def FnExactCountIdealsWrongFalsely : Prop := fnExactCountIdealsRow.holds Try.pinned (OpenSpec.ofChange fnExactCountIdealsWrong)

/-- 'laws.FnExactAntichainsOf': WHATEVER THE INPUT: true; the input reads as it did. -/
def fnExactAntichainsOfSpec : ChangeSpec := { name := "fnExactAntichainsOf", fn := fun _ => fun
  | [d] => { results := [.lit (.bool true)], args := [d] }
  | _ => none }
def fnExactAntichainsOfRow : OpenClaim := { program := "ytodbkoipebnheaa", sum := "504c9ccf38f5488a4a15abc5557bc322eea0c30b445d61ee6d4d8cd9e25172be", func := "loop.example/g01138/laws.FnExactAntichainsOf", spec := "fnExactAntichainsOf", unfollowed := true, recurses := true, apart := false }
def FnExactAntichainsOfSaid : Prop := fnExactAntichainsOfRow.holds Try.pinned (OpenSpec.ofChange fnExactAntichainsOfSpec)

/-- ITS FALSE NEIGHBOUR: 'it returns false'. Refute it at one input. -/
def fnExactAntichainsOfWrong : ChangeSpec := { name := "fnExactAntichainsOf", fn := fun _ => fun
  | [d] => { results := [.lit (.bool false)], args := [d] }
  | _ => none }
def FnExactAntichainsOfWrongFalsely : Prop := fnExactAntichainsOfRow.holds Try.pinned (OpenSpec.ofChange fnExactAntichainsOfWrong)

/-- 'laws.FnExactIdealsOf': WHATEVER THE INPUT: true; the input reads as it did. -/
def fnExactIdealsOfSpec : ChangeSpec := { name := "fnExactIdealsOf", fn := fun _ => fun
  | [d] => { results := [.lit (.bool true)], args := [d] }
  | _ => none }
def fnExactIdealsOfRow : OpenClaim := { program := "ytodbkoipebnheaa", sum := "504c9ccf38f5488a4a15abc5557bc322eea0c30b445d61ee6d4d8cd9e25172be", func := "loop.example/g01138/laws.FnExactIdealsOf", spec := "fnExactIdealsOf", unfollowed := true, recurses := true, apart := false }
def FnExactIdealsOfSaid : Prop := fnExactIdealsOfRow.holds Try.pinned (OpenSpec.ofChange fnExactIdealsOfSpec)

/-- ITS FALSE NEIGHBOUR: 'it returns false'. Refute it at one input. -/
def fnExactIdealsOfWrong : ChangeSpec := { name := "fnExactIdealsOf", fn := fun _ => fun
  | [d] => { results := [.lit (.bool false)], args := [d] }
  | _ => none }
def FnExactIdealsOfWrongFalsely : Prop := fnExactIdealsOfRow.holds Try.pinned (OpenSpec.ofChange fnExactIdealsOfWrong)

/-- 'laws.FnExactDualOf': WHATEVER THE INPUT: true; the input reads as it did. -/
def fnExactDualOfSpec : ChangeSpec := { name := "fnExactDualOf", fn := fun _ => fun
  | [d] => { results := [.lit (.bool true)], args := [d] }
  | _ => none }
def fnExactDualOfRow : OpenClaim := { program := "ytodbkoipebnheaa", sum := "504c9ccf38f5488a4a15abc5557bc322eea0c30b445d61ee6d4d8cd9e25172be", func := "loop.example/g01138/laws.FnExactDualOf", spec := "fnExactDualOf", unfollowed := true, recurses := true, apart := false }
def FnExactDualOfSaid : Prop := fnExactDualOfRow.holds Try.pinned (OpenSpec.ofChange fnExactDualOfSpec)

/-- ITS FALSE NEIGHBOUR: 'it returns false'. Refute it at one input. -/
def fnExactDualOfWrong : ChangeSpec := { name := "fnExactDualOf", fn := fun _ => fun
  | [d] => { results := [.lit (.bool false)], args := [d] }
  | _ => none }
def FnExactDualOfWrongFalsely : Prop := fnExactDualOfRow.holds Try.pinned (OpenSpec.ofChange fnExactDualOfWrong)

/-- 'laws.FnExactDoCommute': WHATEVER THE INPUT: true; the input reads as it did. -/
def fnExactDoCommuteSpec : ChangeSpec := { name := "fnExactDoCommute", fn := fun _ => fun
  | [d1, d2, d3] => { results := [.lit (.bool true)], args := [d1, d2, d3] }
  | _ => none }
def fnExactDoCommuteRow : OpenClaim := { program := "ytodbkoipebnheaa", sum := "504c9ccf38f5488a4a15abc5557bc322eea0c30b445d61ee6d4d8cd9e25172be", func := "loop.example/g01138/laws.FnExactDoCommute", spec := "fnExactDoCommute", unfollowed := true, recurses := true, apart := false }
def FnExactDoCommuteSaid : Prop := fnExactDoCommuteRow.holds Try.pinned (OpenSpec.ofChange fnExactDoCommuteSpec)

/-- ITS FALSE NEIGHBOUR: 'it returns false'. Refute it at one input. -/
def fnExactDoCommuteWrong : ChangeSpec := { name := "fnExactDoCommute", fn := fun _ => fun
  | [d1, d2, d3] => { results := [.lit (.bool false)], args := [d1, d2, d3] }
  | _ => none }
def FnExactDoCommuteWrongFalsely : Prop := fnExactDoCommuteRow.holds Try.pinned (OpenSpec.ofChange fnExactDoCommuteWrong)

/-- 'laws.FnExactToggleAt': WHATEVER THE INPUT: true; the input reads as it did. -/
def fnExactToggleAtSpec : ChangeSpec := { name := "fnExactToggleAt", fn := fun _ => fun
  | [d1, d2, d3] => { results := [.lit (.bool true)], args := [d1, d2, d3] }
  | _ => none }
def fnExactToggleAtRow : OpenClaim := { program := "ytodbkoipebnheaa", sum := "504c9ccf38f5488a4a15abc5557bc322eea0c30b445d61ee6d4d8cd9e25172be", func := "loop.example/g01138/laws.FnExactToggleAt", spec := "fnExactToggleAt", unfollowed := true, recurses := true, apart := false }
def FnExactToggleAtSaid : Prop := fnExactToggleAtRow.holds Try.pinned (OpenSpec.ofChange fnExactToggleAtSpec)

/-- ITS FALSE NEIGHBOUR: 'it returns false'. Refute it at one input. -/
def fnExactToggleAtWrong : ChangeSpec := { name := "fnExactToggleAt", fn := fun _ => fun
  | [d1, d2, d3] => { results := [.lit (.bool false)], args := [d1, d2, d3] }
  | _ => none }
def FnExactToggleAtWrongFalsely : Prop := fnExactToggleAtRow.holds Try.pinned (OpenSpec.ofChange fnExactToggleAtWrong)

/-- 'laws.FnExactToggleWord': WHATEVER THE INPUT: true; the input reads as it did. -/
def fnExactToggleWordSpec : ChangeSpec := { name := "fnExactToggleWord", fn := fun _ => fun
  | [d1, d2, d3] => { results := [.lit (.bool true)], args := [d1, d2, d3] }
  | _ => none }
def fnExactToggleWordRow : OpenClaim := { program := "ytodbkoipebnheaa", sum := "504c9ccf38f5488a4a15abc5557bc322eea0c30b445d61ee6d4d8cd9e25172be", func := "loop.example/g01138/laws.FnExactToggleWord", spec := "fnExactToggleWord", unfollowed := true, recurses := true, apart := false }
def FnExactToggleWordSaid : Prop := fnExactToggleWordRow.holds Try.pinned (OpenSpec.ofChange fnExactToggleWordSpec)

/-- ITS FALSE NEIGHBOUR: 'it returns false'. Refute it at one input. -/
def fnExactToggleWordWrong : ChangeSpec := { name := "fnExactToggleWord", fn := fun _ => fun
  | [d1, d2, d3] => { results := [.lit (.bool false)], args := [d1, d2, d3] }
  | _ => none }
def FnExactToggleWordWrongFalsely : Prop := fnExactToggleWordRow.holds Try.pinned (OpenSpec.ofChange fnExactToggleWordWrong)

/-- 'laws.FnExactPromoteIdeal': WHATEVER THE INPUT: true; the input reads as it did. -/
def fnExactPromoteIdealSpec : ChangeSpec := { name := "fnExactPromoteIdeal", fn := fun _ => fun
  | [d1, d2, d3] => { results := [.lit (.bool true)], args := [d1, d2, d3] }
  | _ => none }
def fnExactPromoteIdealRow : OpenClaim := { program := "ytodbkoipebnheaa", sum := "504c9ccf38f5488a4a15abc5557bc322eea0c30b445d61ee6d4d8cd9e25172be", func := "loop.example/g01138/laws.FnExactPromoteIdeal", spec := "fnExactPromoteIdeal", unfollowed := true, recurses := true, apart := false }
def FnExactPromoteIdealSaid : Prop := fnExactPromoteIdealRow.holds Try.pinned (OpenSpec.ofChange fnExactPromoteIdealSpec)

/-- ITS FALSE NEIGHBOUR: 'it returns false'. Refute it at one input. -/
def fnExactPromoteIdealWrong : ChangeSpec := { name := "fnExactPromoteIdeal", fn := fun _ => fun
  | [d1, d2, d3] => { results := [.lit (.bool false)], args := [d1, d2, d3] }
  | _ => none }
def FnExactPromoteIdealWrongFalsely : Prop := fnExactPromoteIdealRow.holds Try.pinned (OpenSpec.ofChange fnExactPromoteIdealWrong)

/-- 'laws.FnExactPromoteTimes': WHATEVER THE INPUT: true; the input reads as it did. -/
def fnExactPromoteTimesSpec : ChangeSpec := { name := "fnExactPromoteTimes", fn := fun _ => fun
  | [d1, d2, d3, d4] => { results := [.lit (.bool true)], args := [d1, d2, d3, d4] }
  | _ => none }
def fnExactPromoteTimesRow : OpenClaim := { program := "ytodbkoipebnheaa", sum := "504c9ccf38f5488a4a15abc5557bc322eea0c30b445d61ee6d4d8cd9e25172be", func := "loop.example/g01138/laws.FnExactPromoteTimes", spec := "fnExactPromoteTimes", unfollowed := true, recurses := true, apart := false }
def FnExactPromoteTimesSaid : Prop := fnExactPromoteTimesRow.holds Try.pinned (OpenSpec.ofChange fnExactPromoteTimesSpec)

/-- ITS FALSE NEIGHBOUR: 'it returns false'. Refute it at one input. -/
def fnExactPromoteTimesWrong : ChangeSpec := { name := "fnExactPromoteTimes", fn := fun _ => fun
  | [d1, d2, d3, d4] => { results := [.lit (.bool false)], args := [d1, d2, d3, d4] }
  | _ => none }
def FnExactPromoteTimesWrongFalsely : Prop := fnExactPromoteTimesRow.holds Try.pinned (OpenSpec.ofChange fnExactPromoteTimesWrong)

/-- 'laws.FnExactIsRanked': WHATEVER THE INPUT: true; the input reads as it did. -/
def fnExactIsRankedSpec : ChangeSpec := { name := "fnExactIsRanked", fn := fun _ => fun
  | [d] => { results := [.lit (.bool true)], args := [d] }
  | _ => none }
def fnExactIsRankedRow : OpenClaim := { program := "ytodbkoipebnheaa", sum := "504c9ccf38f5488a4a15abc5557bc322eea0c30b445d61ee6d4d8cd9e25172be", func := "loop.example/g01138/laws.FnExactIsRanked", spec := "fnExactIsRanked", unfollowed := true, recurses := true, apart := false }
def FnExactIsRankedSaid : Prop := fnExactIsRankedRow.holds Try.pinned (OpenSpec.ofChange fnExactIsRankedSpec)

/-- ITS FALSE NEIGHBOUR: 'it returns false'. Refute it at one input. -/
def fnExactIsRankedWrong : ChangeSpec := { name := "fnExactIsRanked", fn := fun _ => fun
  | [d] => { results := [.lit (.bool false)], args := [d] }
  | _ => none }
def FnExactIsRankedWrongFalsely : Prop := fnExactIsRankedRow.holds Try.pinned (OpenSpec.ofChange fnExactIsRankedWrong)

/-- 'laws.FnExactMeanOfIdeals': WHATEVER THE INPUT: true; the input reads as it did. -/
def fnExactMeanOfIdealsSpec : ChangeSpec := { name := "fnExactMeanOfIdeals", fn := fun _ => fun
  | [d] => { results := [.lit (.bool true)], args := [d] }
  | _ => none }
def fnExactMeanOfIdealsRow : OpenClaim := { program := "ytodbkoipebnheaa", sum := "504c9ccf38f5488a4a15abc5557bc322eea0c30b445d61ee6d4d8cd9e25172be", func := "loop.example/g01138/laws.FnExactMeanOfIdeals", spec := "fnExactMeanOfIdeals", unfollowed := true, recurses := true, apart := false }
def FnExactMeanOfIdealsSaid : Prop := fnExactMeanOfIdealsRow.holds Try.pinned (OpenSpec.ofChange fnExactMeanOfIdealsSpec)

/-- ITS FALSE NEIGHBOUR: 'it returns false'. Refute it at one input. -/
def fnExactMeanOfIdealsWrong : ChangeSpec := { name := "fnExactMeanOfIdeals", fn := fun _ => fun
  | [d] => { results := [.lit (.bool false)], args := [d] }
  | _ => none }
def FnExactMeanOfIdealsWrongFalsely : Prop := fnExactMeanOfIdealsRow.holds Try.pinned (OpenSpec.ofChange fnExactMeanOfIdealsWrong)

/- THE SECOND FORM. 'bulk': how many values and letters a reading holds, each counted each time it is reached (what is shared counts as often as it is met; a slice's spare places count too). A statement '..UptoSaid' is the law's where the arguments, and the package variables that the reading takes, are together of bulk at most 1048576: NARROWER than '..Said'. Prove '..Said' where nothing that the law and all that it calls make is longer than what came in: it says more and counts as full. Else prove '..UptoSaid'. A law counts once. -/
mutual
def uptoBulk {H : Type} : DataW H → Nat
  | .lit (.string bytes) => bytes.length + 1
  | .lit _ => 1
  | .nil => 1
  | .ptr d => uptoBulk d + 1
  | .slice elems spare => uptoBulkAll elems + uptoBulkAll spare + 1
  | .agg parts => uptoBulkAll parts + 1
  | .iface _ d => uptoBulk d + 1
  | .map entries => uptoBulkEntries entries + 1
  | .held _ => 1
def uptoBulkAll {H : Type} : List (DataW H) → Nat
  | [] => 0
  | d :: r => uptoBulk d + uptoBulkAll r
def uptoBulkEntries {H : Type} : List (Lit × DataW H) → Nat
  | [] => 0
  | x :: r => uptoBulkEntry x + uptoBulkEntries r
def uptoBulkEntry {H : Type} : Lit × DataW H → Nat
  | (.string bytes, d) => bytes.length + uptoBulk d + 1
  | (_, d) => uptoBulk d + 1
 end
def uptoSmall : (H : Type) → List (DataW H) → Bool := fun _ ds => decide (uptoBulkAll ds ≤ 1048576)
def OpenSpec.upto (s : _root_.Go.ChangeSpec) : _root_.Go.OpenSpec := { _root_.Go.OpenSpec.ofChange s with cond := some uptoSmall }

/-- 'laws.FnExactCountIdeals', WHERE WHAT IT READS IS OF BULK AT MOST 1048576: true; the input reads as it did. -/
def fnExactCountIdealsUptoRow : OpenClaim := { program := "ytodbkoipebnheaa", sum := "504c9ccf38f5488a4a15abc5557bc322eea0c30b445d61ee6d4d8cd9e25172be", func := "loop.example/g01138/laws.FnExactCountIdeals", spec := "fnExactCountIdeals", unfollowed := true, recurses := true, apart := false, narrowed := true }
def FnExactCountIdealsUptoSaid : Prop := fnExactCountIdealsUptoRow.holds Try.pinned (OpenSpec.upto fnExactCountIdealsSpec)

/-- 'laws.FnExactAntichainsOf', WHERE WHAT IT READS IS OF BULK AT MOST 1048576: true; the input reads as it did. -/
def fnExactAntichainsOfUptoRow : OpenClaim := { program := "ytodbkoipebnheaa", sum := "504c9ccf38f5488a4a15abc5557bc322eea0c30b445d61ee6d4d8cd9e25172be", func := "loop.example/g01138/laws.FnExactAntichainsOf", spec := "fnExactAntichainsOf", unfollowed := true, recurses := true, apart := false, narrowed := true }
def FnExactAntichainsOfUptoSaid : Prop := fnExactAntichainsOfUptoRow.holds Try.pinned (OpenSpec.upto fnExactAntichainsOfSpec)

/-- 'laws.FnExactIdealsOf', WHERE WHAT IT READS IS OF BULK AT MOST 1048576: true; the input reads as it did. -/
def fnExactIdealsOfUptoRow : OpenClaim := { program := "ytodbkoipebnheaa", sum := "504c9ccf38f5488a4a15abc5557bc322eea0c30b445d61ee6d4d8cd9e25172be", func := "loop.example/g01138/laws.FnExactIdealsOf", spec := "fnExactIdealsOf", unfollowed := true, recurses := true, apart := false, narrowed := true }
def FnExactIdealsOfUptoSaid : Prop := fnExactIdealsOfUptoRow.holds Try.pinned (OpenSpec.upto fnExactIdealsOfSpec)

/-- 'laws.FnExactDualOf', WHERE WHAT IT READS IS OF BULK AT MOST 1048576: true; the input reads as it did. -/
def fnExactDualOfUptoRow : OpenClaim := { program := "ytodbkoipebnheaa", sum := "504c9ccf38f5488a4a15abc5557bc322eea0c30b445d61ee6d4d8cd9e25172be", func := "loop.example/g01138/laws.FnExactDualOf", spec := "fnExactDualOf", unfollowed := true, recurses := true, apart := false, narrowed := true }
def FnExactDualOfUptoSaid : Prop := fnExactDualOfUptoRow.holds Try.pinned (OpenSpec.upto fnExactDualOfSpec)

/-- 'laws.FnExactDoCommute', WHERE WHAT IT READS IS OF BULK AT MOST 1048576: true; the input reads as it did. -/
def fnExactDoCommuteUptoRow : OpenClaim := { program := "ytodbkoipebnheaa", sum := "504c9ccf38f5488a4a15abc5557bc322eea0c30b445d61ee6d4d8cd9e25172be", func := "loop.example/g01138/laws.FnExactDoCommute", spec := "fnExactDoCommute", unfollowed := true, recurses := true, apart := false, narrowed := true }
def FnExactDoCommuteUptoSaid : Prop := fnExactDoCommuteUptoRow.holds Try.pinned (OpenSpec.upto fnExactDoCommuteSpec)

/-- 'laws.FnExactToggleAt', WHERE WHAT IT READS IS OF BULK AT MOST 1048576: true; the input reads as it did. -/
def fnExactToggleAtUptoRow : OpenClaim := { program := "ytodbkoipebnheaa", sum := "504c9ccf38f5488a4a15abc5557bc322eea0c30b445d61ee6d4d8cd9e25172be", func := "loop.example/g01138/laws.FnExactToggleAt", spec := "fnExactToggleAt", unfollowed := true, recurses := true, apart := false, narrowed := true }
def FnExactToggleAtUptoSaid : Prop := fnExactToggleAtUptoRow.holds Try.pinned (OpenSpec.upto fnExactToggleAtSpec)

/-- 'laws.FnExactToggleWord', WHERE WHAT IT READS IS OF BULK AT MOST 1048576: true; the input reads as it did. -/
def fnExactToggleWordUptoRow : OpenClaim := { program := "ytodbkoipebnheaa", sum := "504c9ccf38f5488a4a15abc5557bc322eea0c30b445d61ee6d4d8cd9e25172be", func := "loop.example/g01138/laws.FnExactToggleWord", spec := "fnExactToggleWord", unfollowed := true, recurses := true, apart := false, narrowed := true }
def FnExactToggleWordUptoSaid : Prop := fnExactToggleWordUptoRow.holds Try.pinned (OpenSpec.upto fnExactToggleWordSpec)

/-- 'laws.FnExactPromoteIdeal', WHERE WHAT IT READS IS OF BULK AT MOST 1048576: true; the input reads as it did. -/
def fnExactPromoteIdealUptoRow : OpenClaim := { program := "ytodbkoipebnheaa", sum := "504c9ccf38f5488a4a15abc5557bc322eea0c30b445d61ee6d4d8cd9e25172be", func := "loop.example/g01138/laws.FnExactPromoteIdeal", spec := "fnExactPromoteIdeal", unfollowed := true, recurses := true, apart := false, narrowed := true }
def FnExactPromoteIdealUptoSaid : Prop := fnExactPromoteIdealUptoRow.holds Try.pinned (OpenSpec.upto fnExactPromoteIdealSpec)

/-- 'laws.FnExactPromoteTimes', WHERE WHAT IT READS IS OF BULK AT MOST 1048576: true; the input reads as it did. -/
def fnExactPromoteTimesUptoRow : OpenClaim := { program := "ytodbkoipebnheaa", sum := "504c9ccf38f5488a4a15abc5557bc322eea0c30b445d61ee6d4d8cd9e25172be", func := "loop.example/g01138/laws.FnExactPromoteTimes", spec := "fnExactPromoteTimes", unfollowed := true, recurses := true, apart := false, narrowed := true }
def FnExactPromoteTimesUptoSaid : Prop := fnExactPromoteTimesUptoRow.holds Try.pinned (OpenSpec.upto fnExactPromoteTimesSpec)

/-- 'laws.FnExactIsRanked', WHERE WHAT IT READS IS OF BULK AT MOST 1048576: true; the input reads as it did. -/
def fnExactIsRankedUptoRow : OpenClaim := { program := "ytodbkoipebnheaa", sum := "504c9ccf38f5488a4a15abc5557bc322eea0c30b445d61ee6d4d8cd9e25172be", func := "loop.example/g01138/laws.FnExactIsRanked", spec := "fnExactIsRanked", unfollowed := true, recurses := true, apart := false, narrowed := true }
def FnExactIsRankedUptoSaid : Prop := fnExactIsRankedUptoRow.holds Try.pinned (OpenSpec.upto fnExactIsRankedSpec)

/-- 'laws.FnExactMeanOfIdeals', WHERE WHAT IT READS IS OF BULK AT MOST 1048576: true; the input reads as it did. -/
def fnExactMeanOfIdealsUptoRow : OpenClaim := { program := "ytodbkoipebnheaa", sum := "504c9ccf38f5488a4a15abc5557bc322eea0c30b445d61ee6d4d8cd9e25172be", func := "loop.example/g01138/laws.FnExactMeanOfIdeals", spec := "fnExactMeanOfIdeals", unfollowed := true, recurses := true, apart := false, narrowed := true }
def FnExactMeanOfIdealsUptoSaid : Prop := fnExactMeanOfIdealsUptoRow.holds Try.pinned (OpenSpec.upto fnExactMeanOfIdealsSpec)

end Rows
end Go.Proofs.Ytodbkoipebnheaa
