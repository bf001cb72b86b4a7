/-
  No cell of these rows narrows 'for every input' (looked for: loops, veiled, ifaces, maps, wideKeys, modest, calm, conditions, laid).
  DERIVED. THE GIVEN ROWS OF THIS SEAT. 4 by the template 'for every input the law returns true; each argument reads behind the call as it read before'; 0 by the template 'total and deterministic' (their statements: YtkikpkfambagnaaTotals.lean).
  GIVEN WITH THE SEED: the statements are not yours to turn. If you find one false, say at which input.
  Laid BY PROGRAM, IN A SANDBOX (cutbox-rows.mjs): the forced cells as the released guide's own fill.sh prints them over the translation d8b831dc5568d719… (all of the seat's roots in one cut). By AI agents, Wed Nov 11 2026. No macro, syntax, notation, axiom, sorry.
-/
import Derived.Test.YtkikpkfambagnaaChecked
import GoSem.Claim
import GoSem.ClaimJoined
import GoSem.ClaimMapViews
import Derived.JoinedTies
import Derived.KernelRfl
namespace Go.Proofs.Ytkikpkfambagnaa
/- THE CELL 'sum', in the pinned program and in every row, IS THE sha256 OF THE DUMP (.gsa) THAT YtkikpkfambagnaaProg.lean LOADS. Nothing in Lean hashes anything: it is a label: what it is worth is what the hold of that sum in a sandbox is worth. -/
noncomputable def Try.pinned : Pinned := { name := "ytkikpkfambagnaa", sum := "d8b831dc5568d719deb0befa095dd8d6a98ba6f08e35f0808d45dea2d4fce4ed", checked := Try.checked }
namespace Rows
def none {H : Type} : Left H := { results := [], args := [] }

/-- 'laws.FnExactStaircase': WHATEVER THE INPUT: true; the input reads as it did. -/
def fnExactStaircaseSpec : ChangeSpec := { name := "fnExactStaircase", fn := fun _ => fun
  | [d] => { results := [.lit (.bool true)], args := [d] }
  | _ => none }
def fnExactStaircaseRow : OpenClaim := { program := "ytkikpkfambagnaa", sum := "d8b831dc5568d719deb0befa095dd8d6a98ba6f08e35f0808d45dea2d4fce4ed", func := "loop.example/g01138/laws.FnExactStaircase", spec := "fnExactStaircase", unfollowed := true, recurses := true, apart := false }
def FnExactStaircaseSaid : Prop := fnExactStaircaseRow.holds Try.pinned (OpenSpec.ofChange fnExactStaircaseSpec)

/-- ITS FALSE NEIGHBOUR: 'it returns false'. Refute it at one input. -/
def fnExactStaircaseWrong : ChangeSpec := { name := "fnExactStaircase", fn := fun _ => fun
  | [d] => { results := [.lit (.bool false)], args := [d] }
  | _ => none }
def FnExactStaircaseWrongFalsely : Prop := fnExactStaircaseRow.holds Try.pinned (OpenSpec.ofChange fnExactStaircaseWrong)

/-- 'laws.FnExactIdealWord': WHATEVER THE INPUT: true; the input reads as it did. -/
def fnExactIdealWordSpec : ChangeSpec := { name := "fnExactIdealWord", fn := fun _ => fun
  | [d1, d2, d3] => { results := [.lit (.bool true)], args := [d1, d2, d3] }
  | _ => none }
def fnExactIdealWordRow : OpenClaim := { program := "ytkikpkfambagnaa", sum := "d8b831dc5568d719deb0befa095dd8d6a98ba6f08e35f0808d45dea2d4fce4ed", func := "loop.example/g01138/laws.FnExactIdealWord", spec := "fnExactIdealWord", inPlace := ["internal/abi.NoEscape", "internal/bytealg.MakeNoZero"], unfollowed := true, recurses := true, apart := false }
def FnExactIdealWordSaid : Prop := fnExactIdealWordRow.holds Try.pinned (OpenSpec.ofChange fnExactIdealWordSpec)

/-- ITS FALSE NEIGHBOUR: 'it returns false'. Refute it at one input. -/
def fnExactIdealWordWrong : ChangeSpec := { name := "fnExactIdealWord", fn := fun _ => fun
  | [d1, d2, d3] => { results := [.lit (.bool false)], args := [d1, d2, d3] }
  | _ => none }
def FnExactIdealWordWrongFalsely : Prop := fnExactIdealWordRow.holds Try.pinned (OpenSpec.ofChange fnExactIdealWordWrong)

/-- 'laws.FnExactFromCovers': WHATEVER THE INPUT: true; the input reads as it did. -/
def fnExactFromCoversSpec : ChangeSpec := { name := "fnExactFromCovers", fn := fun _ => fun
  | [d1, d2] => { results := [.lit (.bool true)], args := [d1, d2] }
  | _ => none }
def fnExactFromCoversRow : OpenClaim := { program := "ytkikpkfambagnaa", sum := "d8b831dc5568d719deb0befa095dd8d6a98ba6f08e35f0808d45dea2d4fce4ed", func := "loop.example/g01138/laws.FnExactFromCovers", spec := "fnExactFromCovers", apart := false }
def FnExactFromCoversSaid : Prop := fnExactFromCoversRow.holds Try.pinned (OpenSpec.ofChange fnExactFromCoversSpec)

/-- ITS FALSE NEIGHBOUR: 'it returns false'. Refute it at one input. -/
def fnExactFromCoversWrong : ChangeSpec := { name := "fnExactFromCovers", fn := fun _ => fun
  | [d1, d2] => { results := [.lit (.bool false)], args := [d1, d2] }
  | _ => none }
def FnExactFromCoversWrongFalsely : Prop := fnExactFromCoversRow.holds Try.pinned (OpenSpec.ofChange fnExactFromCoversWrong)

/-- 'laws.FnExactCoversOf': WHATEVER THE INPUT: true; the input reads as it did. -/
def fnExactCoversOfSpec : ChangeSpec := { name := "fnExactCoversOf", fn := fun _ => fun
  | [d] => { results := [.lit (.bool true)], args := [d] }
  | _ => none }
def fnExactCoversOfRow : OpenClaim := { program := "ytkikpkfambagnaa", sum := "d8b831dc5568d719deb0befa095dd8d6a98ba6f08e35f0808d45dea2d4fce4ed", func := "loop.example/g01138/laws.FnExactCoversOf", spec := "fnExactCoversOf", apart := false }
def FnExactCoversOfSaid : Prop := fnExactCoversOfRow.holds Try.pinned (OpenSpec.ofChange fnExactCoversOfSpec)

/-- ITS FALSE NEIGHBOUR: 'it returns false'. Refute it at one input. -/
def fnExactCoversOfWrong : ChangeSpec := { name := "fnExactCoversOf", fn := fun _ => fun
  | [d] => { results := [.lit (.bool false)], args := [d] }
  | _ => none }
def FnExactCoversOfWrongFalsely : Prop := fnExactCoversOfRow.holds Try.pinned (OpenSpec.ofChange fnExactCoversOfWrong)

/- THE SECOND FORM. 'bulk': how many values and letters a reading holds, each counted each time it is reached (what is shared counts as often as it is met; a slice's spare places count too). A statement '..UptoSaid' is the law's where the arguments, and the package variables that the reading takes, are together of bulk at most 1048576: NARROWER than '..Said'. Prove '..Said' where nothing that the law and all that it calls make is longer than what came in: it says more and counts as full. Else prove '..UptoSaid'. A law counts once. -/
mutual
def uptoBulk {H : Type} : DataW H → Nat
  | .lit (.string bytes) => bytes.length + 1
  | .lit _ => 1
  | .nil => 1
  | .ptr d => uptoBulk d + 1
  | .slice elems spare => uptoBulkAll elems + uptoBulkAll spare + 1
  | .agg parts => uptoBulkAll parts + 1
  | .iface _ d => uptoBulk d + 1
  | .map entries => uptoBulkEntries entries + 1
  | .held _ => 1
def uptoBulkAll {H : Type} : List (DataW H) → Nat
  | [] => 0
  | d :: r => uptoBulk d + uptoBulkAll r
def uptoBulkEntries {H : Type} : List (Lit × DataW H) → Nat
  | [] => 0
  | x :: r => uptoBulkEntry x + uptoBulkEntries r
def uptoBulkEntry {H : Type} : Lit × DataW H → Nat
  | (.string bytes, d) => bytes.length + uptoBulk d + 1
  | (_, d) => uptoBulk d + 1
 end
def uptoSmall : (H : Type) → List (DataW H) → Bool := fun _ ds => decide (uptoBulkAll ds ≤ 1048576)
def OpenSpec.upto (s : _root_.Go.ChangeSpec) : _root_.Go.OpenSpec := { _root_.Go.OpenSpec.ofChange s with cond := some uptoSmall }

/-- 'laws.FnExactStaircase', WHERE WHAT IT READS IS OF BULK AT MOST 1048576: true; the input reads as it did. -/
def fnExactStaircaseUptoRow : OpenClaim := { program := "ytkikpkfambagnaa", sum := "d8b831dc5568d719deb0befa095dd8d6a98ba6f08e35f0808d45dea2d4fce4ed", func := "loop.example/g01138/laws.FnExactStaircase", spec := "fnExactStaircase", unfollowed := true, recurses := true, apart := false, narrowed := true }
def FnExactStaircaseUptoSaid : Prop := fnExactStaircaseUptoRow.holds Try.pinned (OpenSpec.upto fnExactStaircaseSpec)

/-- 'laws.FnExactIdealWord', WHERE WHAT IT READS IS OF BULK AT MOST 1048576: true; the input reads as it did. -/
def fnExactIdealWordUptoRow : OpenClaim := { program := "ytkikpkfambagnaa", sum := "d8b831dc5568d719deb0befa095dd8d6a98ba6f08e35f0808d45dea2d4fce4ed", func := "loop.example/g01138/laws.FnExactIdealWord", spec := "fnExactIdealWord", inPlace := ["internal/abi.NoEscape", "internal/bytealg.MakeNoZero"], unfollowed := true, recurses := true, apart := false, narrowed := true }
def FnExactIdealWordUptoSaid : Prop := fnExactIdealWordUptoRow.holds Try.pinned (OpenSpec.upto fnExactIdealWordSpec)

/-- 'laws.FnExactFromCovers', WHERE WHAT IT READS IS OF BULK AT MOST 1048576: true; the input reads as it did. -/
def fnExactFromCoversUptoRow : OpenClaim := { program := "ytkikpkfambagnaa", sum := "d8b831dc5568d719deb0befa095dd8d6a98ba6f08e35f0808d45dea2d4fce4ed", func := "loop.example/g01138/laws.FnExactFromCovers", spec := "fnExactFromCovers", apart := false, narrowed := true }
def FnExactFromCoversUptoSaid : Prop := fnExactFromCoversUptoRow.holds Try.pinned (OpenSpec.upto fnExactFromCoversSpec)

/-- 'laws.FnExactCoversOf', WHERE WHAT IT READS IS OF BULK AT MOST 1048576: true; the input reads as it did. -/
def fnExactCoversOfUptoRow : OpenClaim := { program := "ytkikpkfambagnaa", sum := "d8b831dc5568d719deb0befa095dd8d6a98ba6f08e35f0808d45dea2d4fce4ed", func := "loop.example/g01138/laws.FnExactCoversOf", spec := "fnExactCoversOf", apart := false, narrowed := true }
def FnExactCoversOfUptoSaid : Prop := fnExactCoversOfUptoRow.holds Try.pinned (OpenSpec.upto fnExactCoversOfSpec)

end Rows
end Go.Proofs.Ytkikpkfambagnaa
