/-
  No cell of these rows narrows 'for every input' (looked for: loops, veiled, ifaces, maps, wideKeys, modest, calm, conditions, laid).
  DERIVED. THE GIVEN ROWS OF THIS SEAT. 5 by the template 'for every input the law returns true; each argument reads behind the call as it read before'; 0 by the template 'total and deterministic' (their statements: YtdfgfeobaldmpaaTotals.lean).
  GIVEN WITH THE SEED: the statements are not yours to turn. If you find one false, say at which input.
  Laid BY PROGRAM, IN A SANDBOX (cutbox-rows.mjs): the forced cells as the released guide's own fill.sh prints them over the translation c09889dd115dfb3d… (all of the seat's roots in one cut). By AI agents, Wed Nov 11 2026. No macro, syntax, notation, axiom, sorry.
-/
import Derived.Test.YtdfgfeobaldmpaaChecked
import GoSem.Claim
import GoSem.ClaimJoined
import GoSem.ClaimMapViews
import Derived.JoinedTies
import Derived.KernelRfl
namespace Go.Proofs.Ytdfgfeobaldmpaa
/- THE CELL 'sum', in the pinned program and in every row, IS THE sha256 OF THE DUMP (.gsa) THAT YtdfgfeobaldmpaaProg.lean LOADS. Nothing in Lean hashes anything: it is a label: what it is worth is what the hold of that sum in a sandbox is worth. -/
noncomputable def Try.pinned : Pinned := { name := "ytdfgfeobaldmpaa", sum := "c09889dd115dfb3d9b126e47eb428a8858dc11a8e7a6522cca02075d5e8ddeb5", checked := Try.checked }
namespace Rows
def none {H : Type} : Left H := { results := [], args := [] }

/-- 'laws.FnExactRowmotion': WHATEVER THE INPUT: true; the input reads as it did. -/
def fnExactRowmotionSpec : ChangeSpec := { name := "fnExactRowmotion", fn := fun _ => fun
  | [d1, d2] => { results := [.lit (.bool true)], args := [d1, d2] }
  | _ => none }
def fnExactRowmotionRow : OpenClaim := { program := "ytdfgfeobaldmpaa", sum := "c09889dd115dfb3d9b126e47eb428a8858dc11a8e7a6522cca02075d5e8ddeb5", func := "loop.example/g01138/laws.FnExactRowmotion", spec := "fnExactRowmotion", apart := false }
def FnExactRowmotionSaid : Prop := fnExactRowmotionRow.holds Try.pinned (OpenSpec.ofChange fnExactRowmotionSpec)

/-- ITS FALSE NEIGHBOUR: 'it returns false'. Refute it at one input. -/
def fnExactRowmotionWrong : ChangeSpec := { name := "fnExactRowmotion", fn := fun _ => fun
  | [d1, d2] => { results := [.lit (.bool false)], args := [d1, d2] }
  | _ => none }
def FnExactRowmotionWrongFalsely : Prop := fnExactRowmotionRow.holds Try.pinned (OpenSpec.ofChange fnExactRowmotionWrong)

/-- 'laws.FnExactRowmotionBack': WHATEVER THE INPUT: true; the input reads as it did. -/
def fnExactRowmotionBackSpec : ChangeSpec := { name := "fnExactRowmotionBack", fn := fun _ => fun
  | [d1, d2] => { results := [.lit (.bool true)], args := [d1, d2] }
  | _ => none }
def fnExactRowmotionBackRow : OpenClaim := { program := "ytdfgfeobaldmpaa", sum := "c09889dd115dfb3d9b126e47eb428a8858dc11a8e7a6522cca02075d5e8ddeb5", func := "loop.example/g01138/laws.FnExactRowmotionBack", spec := "fnExactRowmotionBack", apart := false }
def FnExactRowmotionBackSaid : Prop := fnExactRowmotionBackRow.holds Try.pinned (OpenSpec.ofChange fnExactRowmotionBackSpec)

/-- ITS FALSE NEIGHBOUR: 'it returns false'. Refute it at one input. -/
def fnExactRowmotionBackWrong : ChangeSpec := { name := "fnExactRowmotionBack", fn := fun _ => fun
  | [d1, d2] => { results := [.lit (.bool false)], args := [d1, d2] }
  | _ => none }
def FnExactRowmotionBackWrongFalsely : Prop := fnExactRowmotionBackRow.holds Try.pinned (OpenSpec.ofChange fnExactRowmotionBackWrong)

/-- 'laws.FnExactRowmotionTimes': WHATEVER THE INPUT: true; the input reads as it did. -/
def fnExactRowmotionTimesSpec : ChangeSpec := { name := "fnExactRowmotionTimes", fn := fun _ => fun
  | [d1, d2, d3] => { results := [.lit (.bool true)], args := [d1, d2, d3] }
  | _ => none }
def fnExactRowmotionTimesRow : OpenClaim := { program := "ytdfgfeobaldmpaa", sum := "c09889dd115dfb3d9b126e47eb428a8858dc11a8e7a6522cca02075d5e8ddeb5", func := "loop.example/g01138/laws.FnExactRowmotionTimes", spec := "fnExactRowmotionTimes", apart := false }
def FnExactRowmotionTimesSaid : Prop := fnExactRowmotionTimesRow.holds Try.pinned (OpenSpec.ofChange fnExactRowmotionTimesSpec)

/-- ITS FALSE NEIGHBOUR: 'it returns false'. Refute it at one input. -/
def fnExactRowmotionTimesWrong : ChangeSpec := { name := "fnExactRowmotionTimes", fn := fun _ => fun
  | [d1, d2, d3] => { results := [.lit (.bool false)], args := [d1, d2, d3] }
  | _ => none }
def FnExactRowmotionTimesWrongFalsely : Prop := fnExactRowmotionTimesRow.holds Try.pinned (OpenSpec.ofChange fnExactRowmotionTimesWrong)

/-- 'laws.FnExactCountLinear': WHATEVER THE INPUT: true; the input reads as it did. -/
def fnExactCountLinearSpec : ChangeSpec := { name := "fnExactCountLinear", fn := fun _ => fun
  | [d] => { results := [.lit (.bool true)], args := [d] }
  | _ => none }
def fnExactCountLinearRow : OpenClaim := { program := "ytdfgfeobaldmpaa", sum := "c09889dd115dfb3d9b126e47eb428a8858dc11a8e7a6522cca02075d5e8ddeb5", func := "loop.example/g01138/laws.FnExactCountLinear", spec := "fnExactCountLinear", apart := false }
def FnExactCountLinearSaid : Prop := fnExactCountLinearRow.holds Try.pinned (OpenSpec.ofChange fnExactCountLinearSpec)

/-- ITS FALSE NEIGHBOUR: 'it returns false'. Refute it at one input. -/
def fnExactCountLinearWrong : ChangeSpec := { name := "fnExactCountLinear", fn := fun _ => fun
  | [d] => { results := [.lit (.bool false)], args := [d] }
  | _ => none }
def FnExactCountLinearWrongFalsely : Prop := fnExactCountLinearRow.holds Try.pinned (OpenSpec.ofChange fnExactCountLinearWrong)

/-- 'laws.FnExactCountOrders': WHATEVER THE INPUT: true; the input reads as it did. -/
def fnExactCountOrdersSpec : ChangeSpec := { name := "fnExactCountOrders", fn := fun _ => fun
  | [d] => { results := [.lit (.bool true)], args := [d] }
  | _ => none }
def fnExactCountOrdersRow : OpenClaim := { program := "ytdfgfeobaldmpaa", sum := "c09889dd115dfb3d9b126e47eb428a8858dc11a8e7a6522cca02075d5e8ddeb5", func := "loop.example/g01138/laws.FnExactCountOrders", spec := "fnExactCountOrders", apart := false }
def FnExactCountOrdersSaid : Prop := fnExactCountOrdersRow.holds Try.pinned (OpenSpec.ofChange fnExactCountOrdersSpec)

/-- ITS FALSE NEIGHBOUR: 'it returns false'. Refute it at one input. -/
def fnExactCountOrdersWrong : ChangeSpec := { name := "fnExactCountOrders", fn := fun _ => fun
  | [d] => { results := [.lit (.bool false)], args := [d] }
  | _ => none }
def FnExactCountOrdersWrongFalsely : Prop := fnExactCountOrdersRow.holds Try.pinned (OpenSpec.ofChange fnExactCountOrdersWrong)

/- THE SECOND FORM. 'bulk': how many values and letters a reading holds, each counted each time it is reached (what is shared counts as often as it is met; a slice's spare places count too). A statement '..UptoSaid' is the law's where the arguments, and the package variables that the reading takes, are together of bulk at most 1048576: NARROWER than '..Said'. Prove '..Said' where nothing that the law and all that it calls make is longer than what came in: it says more and counts as full. Else prove '..UptoSaid'. A law counts once. -/
mutual
def uptoBulk {H : Type} : DataW H → Nat
  | .lit (.string bytes) => bytes.length + 1
  | .lit _ => 1
  | .nil => 1
  | .ptr d => uptoBulk d + 1
  | .slice elems spare => uptoBulkAll elems + uptoBulkAll spare + 1
  | .agg parts => uptoBulkAll parts + 1
  | .iface _ d => uptoBulk d + 1
  | .map entries => uptoBulkEntries entries + 1
  | .held _ => 1
def uptoBulkAll {H : Type} : List (DataW H) → Nat
  | [] => 0
  | d :: r => uptoBulk d + uptoBulkAll r
def uptoBulkEntries {H : Type} : List (Lit × DataW H) → Nat
  | [] => 0
  | x :: r => uptoBulkEntry x + uptoBulkEntries r
def uptoBulkEntry {H : Type} : Lit × DataW H → Nat
  | (.string bytes, d) => bytes.length + uptoBulk d + 1
  | (_, d) => uptoBulk d + 1
 end
def uptoSmall : (H : Type) → List (DataW H) → Bool := fun _ ds => decide (uptoBulkAll ds ≤ 1048576)
def OpenSpec.upto (s : _root_.Go.ChangeSpec) : _root_.Go.OpenSpec := { _root_.Go.OpenSpec.ofChange s with cond := some uptoSmall }

/-- 'laws.FnExactRowmotion', WHERE WHAT IT READS IS OF BULK AT MOST 1048576: true; the input reads as it did. -/
def fnExactRowmotionUptoRow : OpenClaim := { program := "ytdfgfeobaldmpaa", sum := "c09889dd115dfb3d9b126e47eb428a8858dc11a8e7a6522cca02075d5e8ddeb5", func := "loop.example/g01138/laws.FnExactRowmotion", spec := "fnExactRowmotion", apart := false, narrowed := true }
def FnExactRowmotionUptoSaid : Prop := fnExactRowmotionUptoRow.holds Try.pinned (OpenSpec.upto fnExactRowmotionSpec)

/-- 'laws.FnExactRowmotionBack', WHERE WHAT IT READS IS OF BULK AT MOST 1048576: true; the input reads as it did. -/
def fnExactRowmotionBackUptoRow : OpenClaim := { program := "ytdfgfeobaldmpaa", sum := "c09889dd115dfb3d9b126e47eb428a8858dc11a8e7a6522cca02075d5e8ddeb5", func := "loop.example/g01138/laws.FnExactRowmotionBack", spec := "fnExactRowmotionBack", apart := false, narrowed := true }
def FnExactRowmotionBackUptoSaid : Prop := fnExactRowmotionBackUptoRow.holds Try.pinned (OpenSpec.upto fnExactRowmotionBackSpec)

/-- 'laws.FnExactRowmotionTimes', WHERE WHAT IT READS IS OF BULK AT MOST 1048576: true; the input reads as it did. -/
def fnExactRowmotionTimesUptoRow : OpenClaim := { program := "ytdfgfeobaldmpaa", sum := "c09889dd115dfb3d9b126e47eb428a8858dc11a8e7a6522cca02075d5e8ddeb5", func := "loop.example/g01138/laws.FnExactRowmotionTimes", spec := "fnExactRowmotionTimes", apart := false, narrowed := true }
def FnExactRowmotionTimesUptoSaid : Prop := fnExactRowmotionTimesUptoRow.holds Try.pinned (OpenSpec.upto fnExactRowmotionTimesSpec)

/-- 'laws.FnExactCountLinear', WHERE WHAT IT READS IS OF BULK AT MOST 1048576: true; the input reads as it did. -/
def fnExactCountLinearUptoRow : OpenClaim := { program := "ytdfgfeobaldmpaa", sum := "c09889dd115dfb3d9b126e47eb428a8858dc11a8e7a6522cca02075d5e8ddeb5", func := "loop.example/g01138/laws.FnExactCountLinear", spec := "fnExactCountLinear", apart := false, narrowed := true }
def FnExactCountLinearUptoSaid : Prop := fnExactCountLinearUptoRow.holds Try.pinned (OpenSpec.upto fnExactCountLinearSpec)

/-- 'laws.FnExactCountOrders', WHERE WHAT IT READS IS OF BULK AT MOST 1048576: true; the input reads as it did. -/
def fnExactCountOrdersUptoRow : OpenClaim := { program := "ytdfgfeobaldmpaa", sum := "c09889dd115dfb3d9b126e47eb428a8858dc11a8e7a6522cca02075d5e8ddeb5", func := "loop.example/g01138/laws.FnExactCountOrders", spec := "fnExactCountOrders", apart := false, narrowed := true }
def FnExactCountOrdersUptoSaid : Prop := fnExactCountOrdersUptoRow.holds Try.pinned (OpenSpec.upto fnExactCountOrdersSpec)

end Rows
end Go.Proofs.Ytdfgfeobaldmpaa
