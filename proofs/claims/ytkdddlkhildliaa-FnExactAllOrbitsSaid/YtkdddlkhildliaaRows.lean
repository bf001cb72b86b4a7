/-
  No cell of these rows narrows 'for every input' (looked for: loops, veiled, ifaces, maps, wideKeys, modest, calm, conditions, laid).
  DERIVED. THE GIVEN ROWS OF THIS SEAT. 8 by the template 'for every input the law returns true; each argument reads behind the call as it read before'; 0 by the template 'total and deterministic' (their statements: YtkdddlkhildliaaTotals.lean).
  GIVEN WITH THE SEED: the statements are not yours to turn. If you find one false, say at which input.
  Laid BY PROGRAM, IN A SANDBOX (cutbox-rows.mjs): the forced cells as the released guide's own fill.sh prints them over the translation cc600a1593059a13… (all of the seat's roots in one cut). By AI agents, Wed Nov 11 2026. No macro, syntax, notation, axiom, sorry.
-/
import Derived.Test.YtkdddlkhildliaaChecked
import GoSem.Claim
import GoSem.ClaimJoined
import GoSem.ClaimMapViews
import Derived.JoinedTies
import Derived.KernelRfl
namespace Go.Proofs.Ytkdddlkhildliaa
/- THE CELL 'sum', in the pinned program and in every row, IS THE sha256 OF THE DUMP (.gsa) THAT YtkdddlkhildliaaProg.lean LOADS. Nothing in Lean hashes anything: it is a label: what it is worth is what the hold of that sum in a sandbox is worth. -/
noncomputable def Try.pinned : Pinned := { name := "ytkdddlkhildliaa", sum := "cc600a1593059a138a45289bff4f38776dec32dab7b9a96232776239dffd073f", checked := Try.checked }
namespace Rows
def none {H : Type} : Left H := { results := [], args := [] }

/-- 'laws.FnExactPromotionOrbits': WHATEVER THE INPUT: true; the input reads as it did. -/
def fnExactPromotionOrbitsSpec : ChangeSpec := { name := "fnExactPromotionOrbits", fn := fun _ => fun
  | [d1, d2] => { results := [.lit (.bool true)], args := [d1, d2] }
  | _ => none }
def fnExactPromotionOrbitsRow : OpenClaim := { program := "ytkdddlkhildliaa", sum := "cc600a1593059a138a45289bff4f38776dec32dab7b9a96232776239dffd073f", func := "loop.example/g01138/laws.FnExactPromotionOrbits", spec := "fnExactPromotionOrbits", unfollowed := true, recurses := true, apart := false }
def FnExactPromotionOrbitsSaid : Prop := fnExactPromotionOrbitsRow.holds Try.pinned (OpenSpec.ofChange fnExactPromotionOrbitsSpec)

/-- ITS FALSE NEIGHBOUR: 'it returns false'. Refute it at one input. -/
def fnExactPromotionOrbitsWrong : ChangeSpec := { name := "fnExactPromotionOrbits", fn := fun _ => fun
  | [d1, d2] => { results := [.lit (.bool false)], args := [d1, d2] }
  | _ => none }
def FnExactPromotionOrbitsWrongFalsely : Prop := fnExactPromotionOrbitsRow.holds Try.pinned (OpenSpec.ofChange fnExactPromotionOrbitsWrong)

/-- 'laws.FnExactFileSums': WHATEVER THE INPUT: true; the input reads as it did. -/
def fnExactFileSumsSpec : ChangeSpec := { name := "fnExactFileSums", fn := fun _ => fun
  | [d1, d2, d3] => { results := [.lit (.bool true)], args := [d1, d2, d3] }
  | _ => none }
def fnExactFileSumsRow : OpenClaim := { program := "ytkdddlkhildliaa", sum := "cc600a1593059a138a45289bff4f38776dec32dab7b9a96232776239dffd073f", func := "loop.example/g01138/laws.FnExactFileSums", spec := "fnExactFileSums", unfollowed := true, recurses := true, apart := false }
def FnExactFileSumsSaid : Prop := fnExactFileSumsRow.holds Try.pinned (OpenSpec.ofChange fnExactFileSumsSpec)

/-- ITS FALSE NEIGHBOUR: 'it returns false'. Refute it at one input. -/
def fnExactFileSumsWrong : ChangeSpec := { name := "fnExactFileSums", fn := fun _ => fun
  | [d1, d2, d3] => { results := [.lit (.bool false)], args := [d1, d2, d3] }
  | _ => none }
def FnExactFileSumsWrongFalsely : Prop := fnExactFileSumsRow.holds Try.pinned (OpenSpec.ofChange fnExactFileSumsWrong)

/-- 'laws.FnExactToggleCycles': WHATEVER THE INPUT: true; the input reads as it did. -/
def fnExactToggleCyclesSpec : ChangeSpec := { name := "fnExactToggleCycles", fn := fun _ => fun
  | [d1, d2] => { results := [.lit (.bool true)], args := [d1, d2] }
  | _ => none }
def fnExactToggleCyclesRow : OpenClaim := { program := "ytkdddlkhildliaa", sum := "cc600a1593059a138a45289bff4f38776dec32dab7b9a96232776239dffd073f", func := "loop.example/g01138/laws.FnExactToggleCycles", spec := "fnExactToggleCycles", unfollowed := true, recurses := true, apart := false }
def FnExactToggleCyclesSaid : Prop := fnExactToggleCyclesRow.holds Try.pinned (OpenSpec.ofChange fnExactToggleCyclesSpec)

/-- ITS FALSE NEIGHBOUR: 'it returns false'. Refute it at one input. -/
def fnExactToggleCyclesWrong : ChangeSpec := { name := "fnExactToggleCycles", fn := fun _ => fun
  | [d1, d2] => { results := [.lit (.bool false)], args := [d1, d2] }
  | _ => none }
def FnExactToggleCyclesWrongFalsely : Prop := fnExactToggleCyclesRow.holds Try.pinned (OpenSpec.ofChange fnExactToggleCyclesWrong)

/-- 'laws.FnExactOrderOfRow': WHATEVER THE INPUT: true; the input reads as it did. -/
def fnExactOrderOfRowSpec : ChangeSpec := { name := "fnExactOrderOfRow", fn := fun _ => fun
  | [d] => { results := [.lit (.bool true)], args := [d] }
  | _ => none }
def fnExactOrderOfRowRow : OpenClaim := { program := "ytkdddlkhildliaa", sum := "cc600a1593059a138a45289bff4f38776dec32dab7b9a96232776239dffd073f", func := "loop.example/g01138/laws.FnExactOrderOfRow", spec := "fnExactOrderOfRow", unfollowed := true, recurses := true, apart := false }
def FnExactOrderOfRowSaid : Prop := fnExactOrderOfRowRow.holds Try.pinned (OpenSpec.ofChange fnExactOrderOfRowSpec)

/-- ITS FALSE NEIGHBOUR: 'it returns false'. Refute it at one input. -/
def fnExactOrderOfRowWrong : ChangeSpec := { name := "fnExactOrderOfRow", fn := fun _ => fun
  | [d] => { results := [.lit (.bool false)], args := [d] }
  | _ => none }
def FnExactOrderOfRowWrongFalsely : Prop := fnExactOrderOfRowRow.holds Try.pinned (OpenSpec.ofChange fnExactOrderOfRowWrong)

/-- 'laws.FnExactAllOrbits': WHATEVER THE INPUT: true; the input reads as it did. -/
def fnExactAllOrbitsSpec : ChangeSpec := { name := "fnExactAllOrbits", fn := fun _ => fun
  | [d] => { results := [.lit (.bool true)], args := [d] }
  | _ => none }
def fnExactAllOrbitsRow : OpenClaim := { program := "ytkdddlkhildliaa", sum := "cc600a1593059a138a45289bff4f38776dec32dab7b9a96232776239dffd073f", func := "loop.example/g01138/laws.FnExactAllOrbits", spec := "fnExactAllOrbits", unfollowed := true, recurses := true, apart := false }
def FnExactAllOrbitsSaid : Prop := fnExactAllOrbitsRow.holds Try.pinned (OpenSpec.ofChange fnExactAllOrbitsSpec)

/-- ITS FALSE NEIGHBOUR: 'it returns false'. Refute it at one input. -/
def fnExactAllOrbitsWrong : ChangeSpec := { name := "fnExactAllOrbits", fn := fun _ => fun
  | [d] => { results := [.lit (.bool false)], args := [d] }
  | _ => none }
def FnExactAllOrbitsWrongFalsely : Prop := fnExactAllOrbitsRow.holds Try.pinned (OpenSpec.ofChange fnExactAllOrbitsWrong)

/-- 'laws.FnExactOrderOfWord': WHATEVER THE INPUT: true; the input reads as it did. -/
def fnExactOrderOfWordSpec : ChangeSpec := { name := "fnExactOrderOfWord", fn := fun _ => fun
  | [d1, d2] => { results := [.lit (.bool true)], args := [d1, d2] }
  | _ => none }
def fnExactOrderOfWordRow : OpenClaim := { program := "ytkdddlkhildliaa", sum := "cc600a1593059a138a45289bff4f38776dec32dab7b9a96232776239dffd073f", func := "loop.example/g01138/laws.FnExactOrderOfWord", spec := "fnExactOrderOfWord", unfollowed := true, recurses := true, apart := false }
def FnExactOrderOfWordSaid : Prop := fnExactOrderOfWordRow.holds Try.pinned (OpenSpec.ofChange fnExactOrderOfWordSpec)

/-- ITS FALSE NEIGHBOUR: 'it returns false'. Refute it at one input. -/
def fnExactOrderOfWordWrong : ChangeSpec := { name := "fnExactOrderOfWord", fn := fun _ => fun
  | [d1, d2] => { results := [.lit (.bool false)], args := [d1, d2] }
  | _ => none }
def FnExactOrderOfWordWrongFalsely : Prop := fnExactOrderOfWordRow.holds Try.pinned (OpenSpec.ofChange fnExactOrderOfWordWrong)

/-- 'laws.FnExactSizeIsEven': WHATEVER THE INPUT: true; the input reads as it did. -/
def fnExactSizeIsEvenSpec : ChangeSpec := { name := "fnExactSizeIsEven", fn := fun _ => fun
  | [d] => { results := [.lit (.bool true)], args := [d] }
  | _ => none }
def fnExactSizeIsEvenRow : OpenClaim := { program := "ytkdddlkhildliaa", sum := "cc600a1593059a138a45289bff4f38776dec32dab7b9a96232776239dffd073f", func := "loop.example/g01138/laws.FnExactSizeIsEven", spec := "fnExactSizeIsEven", unfollowed := true, recurses := true, apart := false }
def FnExactSizeIsEvenSaid : Prop := fnExactSizeIsEvenRow.holds Try.pinned (OpenSpec.ofChange fnExactSizeIsEvenSpec)

/-- ITS FALSE NEIGHBOUR: 'it returns false'. Refute it at one input. -/
def fnExactSizeIsEvenWrong : ChangeSpec := { name := "fnExactSizeIsEven", fn := fun _ => fun
  | [d] => { results := [.lit (.bool false)], args := [d] }
  | _ => none }
def FnExactSizeIsEvenWrongFalsely : Prop := fnExactSizeIsEvenRow.holds Try.pinned (OpenSpec.ofChange fnExactSizeIsEvenWrong)

/-- 'laws.FnExactAntichainIsEven': WHATEVER THE INPUT: true; the input reads as it did. -/
def fnExactAntichainIsEvenSpec : ChangeSpec := { name := "fnExactAntichainIsEven", fn := fun _ => fun
  | [d] => { results := [.lit (.bool true)], args := [d] }
  | _ => none }
def fnExactAntichainIsEvenRow : OpenClaim := { program := "ytkdddlkhildliaa", sum := "cc600a1593059a138a45289bff4f38776dec32dab7b9a96232776239dffd073f", func := "loop.example/g01138/laws.FnExactAntichainIsEven", spec := "fnExactAntichainIsEven", unfollowed := true, recurses := true, apart := false }
def FnExactAntichainIsEvenSaid : Prop := fnExactAntichainIsEvenRow.holds Try.pinned (OpenSpec.ofChange fnExactAntichainIsEvenSpec)

/-- ITS FALSE NEIGHBOUR: 'it returns false'. Refute it at one input. -/
def fnExactAntichainIsEvenWrong : ChangeSpec := { name := "fnExactAntichainIsEven", fn := fun _ => fun
  | [d] => { results := [.lit (.bool false)], args := [d] }
  | _ => none }
def FnExactAntichainIsEvenWrongFalsely : Prop := fnExactAntichainIsEvenRow.holds Try.pinned (OpenSpec.ofChange fnExactAntichainIsEvenWrong)

/- THE SECOND FORM. 'bulk': how many values and letters a reading holds, each counted each time it is reached (what is shared counts as often as it is met; a slice's spare places count too). A statement '..UptoSaid' is the law's where the arguments, and the package variables that the reading takes, are together of bulk at most 1048576: NARROWER than '..Said'. Prove '..Said' where nothing that the law and all that it calls make is longer than what came in: it says more and counts as full. Else prove '..UptoSaid'. A law counts once. -/
mutual
def uptoBulk {H : Type} : DataW H → Nat
  | .lit (.string bytes) => bytes.length + 1
  | .lit _ => 1
  | .nil => 1
  | .ptr d => uptoBulk d + 1
  | .slice elems spare => uptoBulkAll elems + uptoBulkAll spare + 1
  | .agg parts => uptoBulkAll parts + 1
  | .iface _ d => uptoBulk d + 1
  | .map entries => uptoBulkEntries entries + 1
  | .held _ => 1
def uptoBulkAll {H : Type} : List (DataW H) → Nat
  | [] => 0
  | d :: r => uptoBulk d + uptoBulkAll r
def uptoBulkEntries {H : Type} : List (Lit × DataW H) → Nat
  | [] => 0
  | x :: r => uptoBulkEntry x + uptoBulkEntries r
def uptoBulkEntry {H : Type} : Lit × DataW H → Nat
  | (.string bytes, d) => bytes.length + uptoBulk d + 1
  | (_, d) => uptoBulk d + 1
 end
def uptoSmall : (H : Type) → List (DataW H) → Bool := fun _ ds => decide (uptoBulkAll ds ≤ 1048576)
def OpenSpec.upto (s : _root_.Go.ChangeSpec) : _root_.Go.OpenSpec := { _root_.Go.OpenSpec.ofChange s with cond := some uptoSmall }

/-- 'laws.FnExactPromotionOrbits', WHERE WHAT IT READS IS OF BULK AT MOST 1048576: true; the input reads as it did. -/
def fnExactPromotionOrbitsUptoRow : OpenClaim := { program := "ytkdddlkhildliaa", sum := "cc600a1593059a138a45289bff4f38776dec32dab7b9a96232776239dffd073f", func := "loop.example/g01138/laws.FnExactPromotionOrbits", spec := "fnExactPromotionOrbits", unfollowed := true, recurses := true, apart := false, narrowed := true }
def FnExactPromotionOrbitsUptoSaid : Prop := fnExactPromotionOrbitsUptoRow.holds Try.pinned (OpenSpec.upto fnExactPromotionOrbitsSpec)

/-- 'laws.FnExactFileSums', WHERE WHAT IT READS IS OF BULK AT MOST 1048576: true; the input reads as it did. -/
def fnExactFileSumsUptoRow : OpenClaim := { program := "ytkdddlkhildliaa", sum := "cc600a1593059a138a45289bff4f38776dec32dab7b9a96232776239dffd073f", func := "loop.example/g01138/laws.FnExactFileSums", spec := "fnExactFileSums", unfollowed := true, recurses := true, apart := false, narrowed := true }
def FnExactFileSumsUptoSaid : Prop := fnExactFileSumsUptoRow.holds Try.pinned (OpenSpec.upto fnExactFileSumsSpec)

/-- 'laws.FnExactToggleCycles', WHERE WHAT IT READS IS OF BULK AT MOST 1048576: true; the input reads as it did. -/
def fnExactToggleCyclesUptoRow : OpenClaim := { program := "ytkdddlkhildliaa", sum := "cc600a1593059a138a45289bff4f38776dec32dab7b9a96232776239dffd073f", func := "loop.example/g01138/laws.FnExactToggleCycles", spec := "fnExactToggleCycles", unfollowed := true, recurses := true, apart := false, narrowed := true }
def FnExactToggleCyclesUptoSaid : Prop := fnExactToggleCyclesUptoRow.holds Try.pinned (OpenSpec.upto fnExactToggleCyclesSpec)

/-- 'laws.FnExactOrderOfRow', WHERE WHAT IT READS IS OF BULK AT MOST 1048576: true; the input reads as it did. -/
def fnExactOrderOfRowUptoRow : OpenClaim := { program := "ytkdddlkhildliaa", sum := "cc600a1593059a138a45289bff4f38776dec32dab7b9a96232776239dffd073f", func := "loop.example/g01138/laws.FnExactOrderOfRow", spec := "fnExactOrderOfRow", unfollowed := true, recurses := true, apart := false, narrowed := true }
def FnExactOrderOfRowUptoSaid : Prop := fnExactOrderOfRowUptoRow.holds Try.pinned (OpenSpec.upto fnExactOrderOfRowSpec)

/-- 'laws.FnExactAllOrbits', WHERE WHAT IT READS IS OF BULK AT MOST 1048576: true; the input reads as it did. -/
def fnExactAllOrbitsUptoRow : OpenClaim := { program := "ytkdddlkhildliaa", sum := "cc600a1593059a138a45289bff4f38776dec32dab7b9a96232776239dffd073f", func := "loop.example/g01138/laws.FnExactAllOrbits", spec := "fnExactAllOrbits", unfollowed := true, recurses := true, apart := false, narrowed := true }
def FnExactAllOrbitsUptoSaid : Prop := fnExactAllOrbitsUptoRow.holds Try.pinned (OpenSpec.upto fnExactAllOrbitsSpec)

/-- 'laws.FnExactOrderOfWord', WHERE WHAT IT READS IS OF BULK AT MOST 1048576: true; the input reads as it did. -/
def fnExactOrderOfWordUptoRow : OpenClaim := { program := "ytkdddlkhildliaa", sum := "cc600a1593059a138a45289bff4f38776dec32dab7b9a96232776239dffd073f", func := "loop.example/g01138/laws.FnExactOrderOfWord", spec := "fnExactOrderOfWord", unfollowed := true, recurses := true, apart := false, narrowed := true }
def FnExactOrderOfWordUptoSaid : Prop := fnExactOrderOfWordUptoRow.holds Try.pinned (OpenSpec.upto fnExactOrderOfWordSpec)

/-- 'laws.FnExactSizeIsEven', WHERE WHAT IT READS IS OF BULK AT MOST 1048576: true; the input reads as it did. -/
def fnExactSizeIsEvenUptoRow : OpenClaim := { program := "ytkdddlkhildliaa", sum := "cc600a1593059a138a45289bff4f38776dec32dab7b9a96232776239dffd073f", func := "loop.example/g01138/laws.FnExactSizeIsEven", spec := "fnExactSizeIsEven", unfollowed := true, recurses := true, apart := false, narrowed := true }
def FnExactSizeIsEvenUptoSaid : Prop := fnExactSizeIsEvenUptoRow.holds Try.pinned (OpenSpec.upto fnExactSizeIsEvenSpec)

/-- 'laws.FnExactAntichainIsEven', WHERE WHAT IT READS IS OF BULK AT MOST 1048576: true; the input reads as it did. -/
def fnExactAntichainIsEvenUptoRow : OpenClaim := { program := "ytkdddlkhildliaa", sum := "cc600a1593059a138a45289bff4f38776dec32dab7b9a96232776239dffd073f", func := "loop.example/g01138/laws.FnExactAntichainIsEven", spec := "fnExactAntichainIsEven", unfollowed := true, recurses := true, apart := false, narrowed := true }
def FnExactAntichainIsEvenUptoSaid : Prop := fnExactAntichainIsEvenUptoRow.holds Try.pinned (OpenSpec.upto fnExactAntichainIsEvenSpec)

end Rows
end Go.Proofs.Ytkdddlkhildliaa
