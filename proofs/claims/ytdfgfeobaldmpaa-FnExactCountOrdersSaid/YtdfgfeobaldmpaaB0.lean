-- Laid by our mk.py through the kit's print.py, out of the translation. Not trusted: Lean checks it.
import Derived.Test.YtdfgfeobaldmpaaProg
import Derived.Below
import Derived.Deep.Draws
import Derived.Deep.AppendLies
import Derived.Maps.AppendAt
import Derived.OwnWalk
import Derived.Laws.BytesArg
import Derived.Laws.MakeOwn
import Derived.Laws.OwnMore
import Derived.Deep.OwnRows
import Derived.Tactics
import Derived.Lib.ConvBytes
import Derived.Laws.Slices
import Derived.WalkKit
import Derived.KernelRfl
import Derived.RowKit3
import Derived.Deep.LoopGhost
import Derived.Deep.QuietTactic
import Derived.BigQuiet
import Derived.WideLaws
import Derived.Deep.DeepCutAuto
import Derived.Deep.CutBlock
import Derived.Deep.RegionHeld3
import Derived.Laws.Rows
import Derived.Lib.AppendStr
import Derived.ArgAppend
import Derived.Laws.IdiomCopy
import Derived.OrdersHeld
import Derived.Laws.BitsLemmas
import Derived.RowKit
import Derived.Lib.SliceRun
import Derived.Test.YtdfgfeobaldmpaaWWords
import Derived.Test.YtdfgfeobaldmpaaWLast
import Derived.Test.YtdfgfeobaldmpaaWTab
import Derived.Test.YtdfgfeobaldmpaaWFour
import Derived.Test.YtdfgfeobaldmpaaWQPut
import Derived.Test.YtdfgfeobaldmpaaWApart
import Derived.Test.YtdfgfeobaldmpaaWArr
import Derived.Test.YtdfgfeobaldmpaaWZeros
import Derived.Test.YtdfgfeobaldmpaaWFoot
import Derived.Test.YtdfgfeobaldmpaaWKept
import Derived.Test.YtdfgfeobaldmpaaWShare
import Derived.Test.YtdfgfeobaldmpaaWN
import Derived.Test.YtdfgfeobaldmpaaWFootNe
import Derived.Test.YtdfgfeobaldmpaaWAt
import Derived.Test.YtdfgfeobaldmpaaWEqStruct
import Derived.Test.YtdfgfeobaldmpaaWRepsOne
import Derived.Test.YtdfgfeobaldmpaaWInv
import Derived.Test.YtdfgfeobaldmpaaWInvWords
import Derived.Test.YtdfgfeobaldmpaaWGuard
import Derived.Test.YtdfgfeobaldmpaaWNEv
import Derived.Test.YtdfgfeobaldmpaaWMore
namespace Go.Proofs.Ytdfgfeobaldmpaa.B
open Go.RowKit Go.Proofs.YtdfgfeobaldmpaaW.PrintWords Go.Proofs.YtdfgfeobaldmpaaW.PrintLast Go.Proofs.YtdfgfeobaldmpaaW.PrintMore
attribute [local go_sem] max2_int min2_int max_two min_two max_three min_three max_four min_four   -- for this text's walks alone
set_option linter.unusedVariables false
set_option linter.unusedSimpArgs false



def errW : Option Int → Value
  | none => .nilIface
  | some c => .iface 0 (.int .i64 c)
theorem errW_none : errW none = .nilIface := rfl
theorem errW_some (c : Int) : errW (some c) = .iface 0 (.int .i64 c) := rfl

theorem info3 : (Try.prog.info? 3).map (fun i => (i.zero, i.size, i.bytes)) = some (some (.int .i64 0), 1, 8) := by kernel_rfl
-- the values' own types

end Go.Proofs.Ytdfgfeobaldmpaa.B
