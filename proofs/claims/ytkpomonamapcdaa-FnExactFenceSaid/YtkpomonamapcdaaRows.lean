/-
  No cell of these rows narrows 'for every input' (looked for: loops, veiled, ifaces, maps, wideKeys, modest, calm, conditions, laid).
  DERIVED. THE GIVEN ROWS OF THIS SEAT. 13 by the template 'for every input the law returns true; each argument reads behind the call as it read before'; 0 by the template 'total and deterministic' (their statements: YtkpomonamapcdaaTotals.lean).
  GIVEN WITH THE SEED: the statements are not yours to turn. If you find one false, say at which input.
  Laid BY PROGRAM, IN A SANDBOX (cutbox-rows.mjs): the forced cells as the released guide's own fill.sh prints them over the translation fa453016972048c7… (all of the seat's roots in one cut). By AI agents, Wed Nov 11 2026. No macro, syntax, notation, axiom, sorry.
-/
import Derived.Test.YtkpomonamapcdaaChecked
import GoSem.Claim
import GoSem.ClaimJoined
import GoSem.ClaimMapViews
import Derived.JoinedTies
import Derived.KernelRfl
namespace Go.Proofs.Ytkpomonamapcdaa
/- THE CELL 'sum', in the pinned program and in every row, IS THE sha256 OF THE DUMP (.gsa) THAT YtkpomonamapcdaaProg.lean LOADS. Nothing in Lean hashes anything: it is a label: what it is worth is what the hold of that sum in a sandbox is worth. -/
noncomputable def Try.pinned : Pinned := { name := "ytkpomonamapcdaa", sum := "fa453016972048c72f85495ea0a7adc208c6d02f891e74ae6c5818672d7607db", checked := Try.checked }
namespace Rows
def none {H : Type} : Left H := { results := [], args := [] }

/-- 'laws.FnExactConstants': WHATEVER THE INPUT: true; the input reads as it did. -/
def fnExactConstantsSpec : ChangeSpec := { name := "fnExactConstants", fn := fun _ => fun
  | [] => { results := [.lit (.bool true)], args := [] }
  | _ => none }
def fnExactConstantsRow : OpenClaim := { program := "ytkpomonamapcdaa", sum := "fa453016972048c72f85495ea0a7adc208c6d02f891e74ae6c5818672d7607db", func := "loop.example/g01138/laws.FnExactConstants", spec := "fnExactConstants", apart := false }
def FnExactConstantsSaid : Prop := fnExactConstantsRow.holds Try.pinned (OpenSpec.ofChange fnExactConstantsSpec)

/-- ITS FALSE NEIGHBOUR: 'it returns false'. Refute it at one input. -/
def fnExactConstantsWrong : ChangeSpec := { name := "fnExactConstants", fn := fun _ => fun
  | [] => { results := [.lit (.bool false)], args := [] }
  | _ => none }
def FnExactConstantsWrongFalsely : Prop := fnExactConstantsRow.holds Try.pinned (OpenSpec.ofChange fnExactConstantsWrong)

/-- 'laws.FnExactFromWord': WHATEVER THE INPUT: true; the input reads as it did. -/
def fnExactFromWordSpec : ChangeSpec := { name := "fnExactFromWord", fn := fun _ => fun
  | [d1, d2, d3] => { results := [.lit (.bool true)], args := [d1, d2, d3] }
  | _ => none }
def fnExactFromWordRow : OpenClaim := { program := "ytkpomonamapcdaa", sum := "fa453016972048c72f85495ea0a7adc208c6d02f891e74ae6c5818672d7607db", func := "loop.example/g01138/laws.FnExactFromWord", spec := "fnExactFromWord", apart := false }
def FnExactFromWordSaid : Prop := fnExactFromWordRow.holds Try.pinned (OpenSpec.ofChange fnExactFromWordSpec)

/-- ITS FALSE NEIGHBOUR: 'it returns false'. Refute it at one input. -/
def fnExactFromWordWrong : ChangeSpec := { name := "fnExactFromWord", fn := fun _ => fun
  | [d1, d2, d3] => { results := [.lit (.bool false)], args := [d1, d2, d3] }
  | _ => none }
def FnExactFromWordWrongFalsely : Prop := fnExactFromWordRow.holds Try.pinned (OpenSpec.ofChange fnExactFromWordWrong)

/-- 'laws.FnExactStaircase': WHATEVER THE INPUT: true; the input reads as it did. -/
def fnExactStaircaseSpec : ChangeSpec := { name := "fnExactStaircase", fn := fun _ => fun
  | [d] => { results := [.lit (.bool true)], args := [d] }
  | _ => none }
def fnExactStaircaseRow : OpenClaim := { program := "ytkpomonamapcdaa", sum := "fa453016972048c72f85495ea0a7adc208c6d02f891e74ae6c5818672d7607db", func := "loop.example/g01138/laws.FnExactStaircase", spec := "fnExactStaircase", unfollowed := true, recurses := true, apart := false }
def FnExactStaircaseSaid : Prop := fnExactStaircaseRow.holds Try.pinned (OpenSpec.ofChange fnExactStaircaseSpec)

/-- ITS FALSE NEIGHBOUR: 'it returns false'. Refute it at one input. -/
def fnExactStaircaseWrong : ChangeSpec := { name := "fnExactStaircase", fn := fun _ => fun
  | [d] => { results := [.lit (.bool false)], args := [d] }
  | _ => none }
def FnExactStaircaseWrongFalsely : Prop := fnExactStaircaseRow.holds Try.pinned (OpenSpec.ofChange fnExactStaircaseWrong)

/-- 'laws.FnExactFence': WHATEVER THE INPUT: true; the input reads as it did. -/
def fnExactFenceSpec : ChangeSpec := { name := "fnExactFence", fn := fun _ => fun
  | [d] => { results := [.lit (.bool true)], args := [d] }
  | _ => none }
def fnExactFenceRow : OpenClaim := { program := "ytkpomonamapcdaa", sum := "fa453016972048c72f85495ea0a7adc208c6d02f891e74ae6c5818672d7607db", func := "loop.example/g01138/laws.FnExactFence", spec := "fnExactFence", unfollowed := true, recurses := true, apart := false }
def FnExactFenceSaid : Prop := fnExactFenceRow.holds Try.pinned (OpenSpec.ofChange fnExactFenceSpec)

/-- ITS FALSE NEIGHBOUR: 'it returns false'. Refute it at one input. -/
def fnExactFenceWrong : ChangeSpec := { name := "fnExactFence", fn := fun _ => fun
  | [d] => { results := [.lit (.bool false)], args := [d] }
  | _ => none }
def FnExactFenceWrongFalsely : Prop := fnExactFenceRow.holds Try.pinned (OpenSpec.ofChange fnExactFenceWrong)

/-- 'laws.FnExactIsPoset': WHATEVER THE INPUT: true; the input reads as it did. -/
def fnExactIsPosetSpec : ChangeSpec := { name := "fnExactIsPoset", fn := fun _ => fun
  | [d] => { results := [.lit (.bool true)], args := [d] }
  | _ => none }
def fnExactIsPosetRow : OpenClaim := { program := "ytkpomonamapcdaa", sum := "fa453016972048c72f85495ea0a7adc208c6d02f891e74ae6c5818672d7607db", func := "loop.example/g01138/laws.FnExactIsPoset", spec := "fnExactIsPoset", apart := false }
def FnExactIsPosetSaid : Prop := fnExactIsPosetRow.holds Try.pinned (OpenSpec.ofChange fnExactIsPosetSpec)

/-- ITS FALSE NEIGHBOUR: 'it returns false'. Refute it at one input. -/
def fnExactIsPosetWrong : ChangeSpec := { name := "fnExactIsPoset", fn := fun _ => fun
  | [d] => { results := [.lit (.bool false)], args := [d] }
  | _ => none }
def FnExactIsPosetWrongFalsely : Prop := fnExactIsPosetRow.holds Try.pinned (OpenSpec.ofChange fnExactIsPosetWrong)

/-- 'laws.FnExactRectangle': WHATEVER THE INPUT: true; the input reads as it did. -/
def fnExactRectangleSpec : ChangeSpec := { name := "fnExactRectangle", fn := fun _ => fun
  | [d1, d2] => { results := [.lit (.bool true)], args := [d1, d2] }
  | _ => none }
def fnExactRectangleRow : OpenClaim := { program := "ytkpomonamapcdaa", sum := "fa453016972048c72f85495ea0a7adc208c6d02f891e74ae6c5818672d7607db", func := "loop.example/g01138/laws.FnExactRectangle", spec := "fnExactRectangle", unfollowed := true, recurses := true, apart := false }
def FnExactRectangleSaid : Prop := fnExactRectangleRow.holds Try.pinned (OpenSpec.ofChange fnExactRectangleSpec)

/-- ITS FALSE NEIGHBOUR: 'it returns false'. Refute it at one input. -/
def fnExactRectangleWrong : ChangeSpec := { name := "fnExactRectangle", fn := fun _ => fun
  | [d1, d2] => { results := [.lit (.bool false)], args := [d1, d2] }
  | _ => none }
def FnExactRectangleWrongFalsely : Prop := fnExactRectangleRow.holds Try.pinned (OpenSpec.ofChange fnExactRectangleWrong)

/-- 'laws.FnExactIdealWord': WHATEVER THE INPUT: true; the input reads as it did. -/
def fnExactIdealWordSpec : ChangeSpec := { name := "fnExactIdealWord", fn := fun _ => fun
  | [d1, d2, d3] => { results := [.lit (.bool true)], args := [d1, d2, d3] }
  | _ => none }
def fnExactIdealWordRow : OpenClaim := { program := "ytkpomonamapcdaa", sum := "fa453016972048c72f85495ea0a7adc208c6d02f891e74ae6c5818672d7607db", func := "loop.example/g01138/laws.FnExactIdealWord", spec := "fnExactIdealWord", inPlace := ["internal/abi.NoEscape", "internal/bytealg.MakeNoZero"], unfollowed := true, recurses := true, apart := false }
def FnExactIdealWordSaid : Prop := fnExactIdealWordRow.holds Try.pinned (OpenSpec.ofChange fnExactIdealWordSpec)

/-- ITS FALSE NEIGHBOUR: 'it returns false'. Refute it at one input. -/
def fnExactIdealWordWrong : ChangeSpec := { name := "fnExactIdealWord", fn := fun _ => fun
  | [d1, d2, d3] => { results := [.lit (.bool false)], args := [d1, d2, d3] }
  | _ => none }
def FnExactIdealWordWrongFalsely : Prop := fnExactIdealWordRow.holds Try.pinned (OpenSpec.ofChange fnExactIdealWordWrong)

/-- 'laws.FnExactIsIdeal': WHATEVER THE INPUT: true; the input reads as it did. -/
def fnExactIsIdealSpec : ChangeSpec := { name := "fnExactIsIdeal", fn := fun _ => fun
  | [d1, d2] => { results := [.lit (.bool true)], args := [d1, d2] }
  | _ => none }
def fnExactIsIdealRow : OpenClaim := { program := "ytkpomonamapcdaa", sum := "fa453016972048c72f85495ea0a7adc208c6d02f891e74ae6c5818672d7607db", func := "loop.example/g01138/laws.FnExactIsIdeal", spec := "fnExactIsIdeal", apart := false }
def FnExactIsIdealSaid : Prop := fnExactIsIdealRow.holds Try.pinned (OpenSpec.ofChange fnExactIsIdealSpec)

/-- ITS FALSE NEIGHBOUR: 'it returns false'. Refute it at one input. -/
def fnExactIsIdealWrong : ChangeSpec := { name := "fnExactIsIdeal", fn := fun _ => fun
  | [d1, d2] => { results := [.lit (.bool false)], args := [d1, d2] }
  | _ => none }
def FnExactIsIdealWrongFalsely : Prop := fnExactIsIdealRow.holds Try.pinned (OpenSpec.ofChange fnExactIsIdealWrong)

/-- 'laws.FnExactIdealOf': WHATEVER THE INPUT: true; the input reads as it did. -/
def fnExactIdealOfSpec : ChangeSpec := { name := "fnExactIdealOf", fn := fun _ => fun
  | [d1, d2] => { results := [.lit (.bool true)], args := [d1, d2] }
  | _ => none }
def fnExactIdealOfRow : OpenClaim := { program := "ytkpomonamapcdaa", sum := "fa453016972048c72f85495ea0a7adc208c6d02f891e74ae6c5818672d7607db", func := "loop.example/g01138/laws.FnExactIdealOf", spec := "fnExactIdealOf", apart := false }
def FnExactIdealOfSaid : Prop := fnExactIdealOfRow.holds Try.pinned (OpenSpec.ofChange fnExactIdealOfSpec)

/-- ITS FALSE NEIGHBOUR: 'it returns false'. Refute it at one input. -/
def fnExactIdealOfWrong : ChangeSpec := { name := "fnExactIdealOf", fn := fun _ => fun
  | [d1, d2] => { results := [.lit (.bool false)], args := [d1, d2] }
  | _ => none }
def FnExactIdealOfWrongFalsely : Prop := fnExactIdealOfRow.holds Try.pinned (OpenSpec.ofChange fnExactIdealOfWrong)

/-- 'laws.FnExactIsAntichain': WHATEVER THE INPUT: true; the input reads as it did. -/
def fnExactIsAntichainSpec : ChangeSpec := { name := "fnExactIsAntichain", fn := fun _ => fun
  | [d1, d2] => { results := [.lit (.bool true)], args := [d1, d2] }
  | _ => none }
def fnExactIsAntichainRow : OpenClaim := { program := "ytkpomonamapcdaa", sum := "fa453016972048c72f85495ea0a7adc208c6d02f891e74ae6c5818672d7607db", func := "loop.example/g01138/laws.FnExactIsAntichain", spec := "fnExactIsAntichain", apart := false }
def FnExactIsAntichainSaid : Prop := fnExactIsAntichainRow.holds Try.pinned (OpenSpec.ofChange fnExactIsAntichainSpec)

/-- ITS FALSE NEIGHBOUR: 'it returns false'. Refute it at one input. -/
def fnExactIsAntichainWrong : ChangeSpec := { name := "fnExactIsAntichain", fn := fun _ => fun
  | [d1, d2] => { results := [.lit (.bool false)], args := [d1, d2] }
  | _ => none }
def FnExactIsAntichainWrongFalsely : Prop := fnExactIsAntichainRow.holds Try.pinned (OpenSpec.ofChange fnExactIsAntichainWrong)

/-- 'laws.FnExactTopOf': WHATEVER THE INPUT: true; the input reads as it did. -/
def fnExactTopOfSpec : ChangeSpec := { name := "fnExactTopOf", fn := fun _ => fun
  | [d1, d2] => { results := [.lit (.bool true)], args := [d1, d2] }
  | _ => none }
def fnExactTopOfRow : OpenClaim := { program := "ytkpomonamapcdaa", sum := "fa453016972048c72f85495ea0a7adc208c6d02f891e74ae6c5818672d7607db", func := "loop.example/g01138/laws.FnExactTopOf", spec := "fnExactTopOf", apart := false }
def FnExactTopOfSaid : Prop := fnExactTopOfRow.holds Try.pinned (OpenSpec.ofChange fnExactTopOfSpec)

/-- ITS FALSE NEIGHBOUR: 'it returns false'. Refute it at one input. -/
def fnExactTopOfWrong : ChangeSpec := { name := "fnExactTopOf", fn := fun _ => fun
  | [d1, d2] => { results := [.lit (.bool false)], args := [d1, d2] }
  | _ => none }
def FnExactTopOfWrongFalsely : Prop := fnExactTopOfRow.holds Try.pinned (OpenSpec.ofChange fnExactTopOfWrong)

/-- 'laws.FnExactBottomOf': WHATEVER THE INPUT: true; the input reads as it did. -/
def fnExactBottomOfSpec : ChangeSpec := { name := "fnExactBottomOf", fn := fun _ => fun
  | [d1, d2] => { results := [.lit (.bool true)], args := [d1, d2] }
  | _ => none }
def fnExactBottomOfRow : OpenClaim := { program := "ytkpomonamapcdaa", sum := "fa453016972048c72f85495ea0a7adc208c6d02f891e74ae6c5818672d7607db", func := "loop.example/g01138/laws.FnExactBottomOf", spec := "fnExactBottomOf", apart := false }
def FnExactBottomOfSaid : Prop := fnExactBottomOfRow.holds Try.pinned (OpenSpec.ofChange fnExactBottomOfSpec)

/-- ITS FALSE NEIGHBOUR: 'it returns false'. Refute it at one input. -/
def fnExactBottomOfWrong : ChangeSpec := { name := "fnExactBottomOf", fn := fun _ => fun
  | [d1, d2] => { results := [.lit (.bool false)], args := [d1, d2] }
  | _ => none }
def FnExactBottomOfWrongFalsely : Prop := fnExactBottomOfRow.holds Try.pinned (OpenSpec.ofChange fnExactBottomOfWrong)

/-- 'laws.FnExactIsOrder': WHATEVER THE INPUT: true; the input reads as it did. -/
def fnExactIsOrderSpec : ChangeSpec := { name := "fnExactIsOrder", fn := fun _ => fun
  | [d1, d2] => { results := [.lit (.bool true)], args := [d1, d2] }
  | _ => none }
def fnExactIsOrderRow : OpenClaim := { program := "ytkpomonamapcdaa", sum := "fa453016972048c72f85495ea0a7adc208c6d02f891e74ae6c5818672d7607db", func := "loop.example/g01138/laws.FnExactIsOrder", spec := "fnExactIsOrder", apart := false }
def FnExactIsOrderSaid : Prop := fnExactIsOrderRow.holds Try.pinned (OpenSpec.ofChange fnExactIsOrderSpec)

/-- ITS FALSE NEIGHBOUR: 'it returns false'. Refute it at one input. -/
def fnExactIsOrderWrong : ChangeSpec := { name := "fnExactIsOrder", fn := fun _ => fun
  | [d1, d2] => { results := [.lit (.bool false)], args := [d1, d2] }
  | _ => none }
def FnExactIsOrderWrongFalsely : Prop := fnExactIsOrderRow.holds Try.pinned (OpenSpec.ofChange fnExactIsOrderWrong)

/- THE SECOND FORM. 'bulk': how many values and letters a reading holds, each counted each time it is reached (what is shared counts as often as it is met; a slice's spare places count too). A statement '..UptoSaid' is the law's where the arguments, and the package variables that the reading takes, are together of bulk at most 1048576: NARROWER than '..Said'. Prove '..Said' where nothing that the law and all that it calls make is longer than what came in: it says more and counts as full. Else prove '..UptoSaid'. A law counts once. -/
mutual
def uptoBulk {H : Type} : DataW H → Nat
  | .lit (.string bytes) => bytes.length + 1
  | .lit _ => 1
  | .nil => 1
  | .ptr d => uptoBulk d + 1
  | .slice elems spare => uptoBulkAll elems + uptoBulkAll spare + 1
  | .agg parts => uptoBulkAll parts + 1
  | .iface _ d => uptoBulk d + 1
  | .map entries => uptoBulkEntries entries + 1
  | .held _ => 1
def uptoBulkAll {H : Type} : List (DataW H) → Nat
  | [] => 0
  | d :: r => uptoBulk d + uptoBulkAll r
def uptoBulkEntries {H : Type} : List (Lit × DataW H) → Nat
  | [] => 0
  | x :: r => uptoBulkEntry x + uptoBulkEntries r
def uptoBulkEntry {H : Type} : Lit × DataW H → Nat
  | (.string bytes, d) => bytes.length + uptoBulk d + 1
  | (_, d) => uptoBulk d + 1
 end
def uptoSmall : (H : Type) → List (DataW H) → Bool := fun _ ds => decide (uptoBulkAll ds ≤ 1048576)
def OpenSpec.upto (s : _root_.Go.ChangeSpec) : _root_.Go.OpenSpec := { _root_.Go.OpenSpec.ofChange s with cond := some uptoSmall }

/-- 'laws.FnExactConstants', WHERE WHAT IT READS IS OF BULK AT MOST 1048576: true; the input reads as it did. -/
def fnExactConstantsUptoRow : OpenClaim := { program := "ytkpomonamapcdaa", sum := "fa453016972048c72f85495ea0a7adc208c6d02f891e74ae6c5818672d7607db", func := "loop.example/g01138/laws.FnExactConstants", spec := "fnExactConstants", apart := false, narrowed := true }
def FnExactConstantsUptoSaid : Prop := fnExactConstantsUptoRow.holds Try.pinned (OpenSpec.upto fnExactConstantsSpec)

/-- 'laws.FnExactFromWord', WHERE WHAT IT READS IS OF BULK AT MOST 1048576: true; the input reads as it did. -/
def fnExactFromWordUptoRow : OpenClaim := { program := "ytkpomonamapcdaa", sum := "fa453016972048c72f85495ea0a7adc208c6d02f891e74ae6c5818672d7607db", func := "loop.example/g01138/laws.FnExactFromWord", spec := "fnExactFromWord", apart := false, narrowed := true }
def FnExactFromWordUptoSaid : Prop := fnExactFromWordUptoRow.holds Try.pinned (OpenSpec.upto fnExactFromWordSpec)

/-- 'laws.FnExactStaircase', WHERE WHAT IT READS IS OF BULK AT MOST 1048576: true; the input reads as it did. -/
def fnExactStaircaseUptoRow : OpenClaim := { program := "ytkpomonamapcdaa", sum := "fa453016972048c72f85495ea0a7adc208c6d02f891e74ae6c5818672d7607db", func := "loop.example/g01138/laws.FnExactStaircase", spec := "fnExactStaircase", unfollowed := true, recurses := true, apart := false, narrowed := true }
def FnExactStaircaseUptoSaid : Prop := fnExactStaircaseUptoRow.holds Try.pinned (OpenSpec.upto fnExactStaircaseSpec)

/-- 'laws.FnExactFence', WHERE WHAT IT READS IS OF BULK AT MOST 1048576: true; the input reads as it did. -/
def fnExactFenceUptoRow : OpenClaim := { program := "ytkpomonamapcdaa", sum := "fa453016972048c72f85495ea0a7adc208c6d02f891e74ae6c5818672d7607db", func := "loop.example/g01138/laws.FnExactFence", spec := "fnExactFence", unfollowed := true, recurses := true, apart := false, narrowed := true }
def FnExactFenceUptoSaid : Prop := fnExactFenceUptoRow.holds Try.pinned (OpenSpec.upto fnExactFenceSpec)

/-- 'laws.FnExactIsPoset', WHERE WHAT IT READS IS OF BULK AT MOST 1048576: true; the input reads as it did. -/
def fnExactIsPosetUptoRow : OpenClaim := { program := "ytkpomonamapcdaa", sum := "fa453016972048c72f85495ea0a7adc208c6d02f891e74ae6c5818672d7607db", func := "loop.example/g01138/laws.FnExactIsPoset", spec := "fnExactIsPoset", apart := false, narrowed := true }
def FnExactIsPosetUptoSaid : Prop := fnExactIsPosetUptoRow.holds Try.pinned (OpenSpec.upto fnExactIsPosetSpec)

/-- 'laws.FnExactRectangle', WHERE WHAT IT READS IS OF BULK AT MOST 1048576: true; the input reads as it did. -/
def fnExactRectangleUptoRow : OpenClaim := { program := "ytkpomonamapcdaa", sum := "fa453016972048c72f85495ea0a7adc208c6d02f891e74ae6c5818672d7607db", func := "loop.example/g01138/laws.FnExactRectangle", spec := "fnExactRectangle", unfollowed := true, recurses := true, apart := false, narrowed := true }
def FnExactRectangleUptoSaid : Prop := fnExactRectangleUptoRow.holds Try.pinned (OpenSpec.upto fnExactRectangleSpec)

/-- 'laws.FnExactIdealWord', WHERE WHAT IT READS IS OF BULK AT MOST 1048576: true; the input reads as it did. -/
def fnExactIdealWordUptoRow : OpenClaim := { program := "ytkpomonamapcdaa", sum := "fa453016972048c72f85495ea0a7adc208c6d02f891e74ae6c5818672d7607db", func := "loop.example/g01138/laws.FnExactIdealWord", spec := "fnExactIdealWord", inPlace := ["internal/abi.NoEscape", "internal/bytealg.MakeNoZero"], unfollowed := true, recurses := true, apart := false, narrowed := true }
def FnExactIdealWordUptoSaid : Prop := fnExactIdealWordUptoRow.holds Try.pinned (OpenSpec.upto fnExactIdealWordSpec)

/-- 'laws.FnExactIsIdeal', WHERE WHAT IT READS IS OF BULK AT MOST 1048576: true; the input reads as it did. -/
def fnExactIsIdealUptoRow : OpenClaim := { program := "ytkpomonamapcdaa", sum := "fa453016972048c72f85495ea0a7adc208c6d02f891e74ae6c5818672d7607db", func := "loop.example/g01138/laws.FnExactIsIdeal", spec := "fnExactIsIdeal", apart := false, narrowed := true }
def FnExactIsIdealUptoSaid : Prop := fnExactIsIdealUptoRow.holds Try.pinned (OpenSpec.upto fnExactIsIdealSpec)

/-- 'laws.FnExactIdealOf', WHERE WHAT IT READS IS OF BULK AT MOST 1048576: true; the input reads as it did. -/
def fnExactIdealOfUptoRow : OpenClaim := { program := "ytkpomonamapcdaa", sum := "fa453016972048c72f85495ea0a7adc208c6d02f891e74ae6c5818672d7607db", func := "loop.example/g01138/laws.FnExactIdealOf", spec := "fnExactIdealOf", apart := false, narrowed := true }
def FnExactIdealOfUptoSaid : Prop := fnExactIdealOfUptoRow.holds Try.pinned (OpenSpec.upto fnExactIdealOfSpec)

/-- 'laws.FnExactIsAntichain', WHERE WHAT IT READS IS OF BULK AT MOST 1048576: true; the input reads as it did. -/
def fnExactIsAntichainUptoRow : OpenClaim := { program := "ytkpomonamapcdaa", sum := "fa453016972048c72f85495ea0a7adc208c6d02f891e74ae6c5818672d7607db", func := "loop.example/g01138/laws.FnExactIsAntichain", spec := "fnExactIsAntichain", apart := false, narrowed := true }
def FnExactIsAntichainUptoSaid : Prop := fnExactIsAntichainUptoRow.holds Try.pinned (OpenSpec.upto fnExactIsAntichainSpec)

/-- 'laws.FnExactTopOf', WHERE WHAT IT READS IS OF BULK AT MOST 1048576: true; the input reads as it did. -/
def fnExactTopOfUptoRow : OpenClaim := { program := "ytkpomonamapcdaa", sum := "fa453016972048c72f85495ea0a7adc208c6d02f891e74ae6c5818672d7607db", func := "loop.example/g01138/laws.FnExactTopOf", spec := "fnExactTopOf", apart := false, narrowed := true }
def FnExactTopOfUptoSaid : Prop := fnExactTopOfUptoRow.holds Try.pinned (OpenSpec.upto fnExactTopOfSpec)

/-- 'laws.FnExactBottomOf', WHERE WHAT IT READS IS OF BULK AT MOST 1048576: true; the input reads as it did. -/
def fnExactBottomOfUptoRow : OpenClaim := { program := "ytkpomonamapcdaa", sum := "fa453016972048c72f85495ea0a7adc208c6d02f891e74ae6c5818672d7607db", func := "loop.example/g01138/laws.FnExactBottomOf", spec := "fnExactBottomOf", apart := false, narrowed := true }
def FnExactBottomOfUptoSaid : Prop := fnExactBottomOfUptoRow.holds Try.pinned (OpenSpec.upto fnExactBottomOfSpec)

/-- 'laws.FnExactIsOrder', WHERE WHAT IT READS IS OF BULK AT MOST 1048576: true; the input reads as it did. -/
def fnExactIsOrderUptoRow : OpenClaim := { program := "ytkpomonamapcdaa", sum := "fa453016972048c72f85495ea0a7adc208c6d02f891e74ae6c5818672d7607db", func := "loop.example/g01138/laws.FnExactIsOrder", spec := "fnExactIsOrder", apart := false, narrowed := true }
def FnExactIsOrderUptoSaid : Prop := fnExactIsOrderUptoRow.holds Try.pinned (OpenSpec.upto fnExactIsOrderSpec)

end Rows
end Go.Proofs.Ytkpomonamapcdaa
