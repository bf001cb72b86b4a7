-- Laid by our mk.py through the kit's print.py, out of the translation. Not trusted: Lean checks it.
import Derived.Test.YtpfolfplebpeaaaProg
import Derived.Below
import Derived.Deep.Draws
import Derived.Deep.AppendLies
import Derived.Maps.AppendAt
import Derived.OwnWalk
import Derived.Laws.BytesArg
import Derived.Laws.MakeOwn
import Derived.Laws.OwnMore
import Derived.Deep.OwnRows
import Derived.Tactics
import Derived.Lib.ConvBytes
import Derived.Laws.Slices
import Derived.WalkKit
import Derived.KernelRfl
import Derived.RowKit3
import Derived.Deep.LoopGhost
import Derived.Deep.QuietTactic
import Derived.BigQuiet
import Derived.WideLaws
import Derived.Deep.DeepCutAuto
import Derived.Deep.CutBlock
import Derived.Deep.RegionHeld3
import Derived.Laws.Rows
import Derived.Lib.AppendStr
import Derived.ArgAppend
import Derived.Laws.IdiomCopy
import Derived.OrdersHeld
import Derived.Laws.BitsLemmas
import Derived.RowKit
import Derived.Lib.SliceRun
import Derived.Test.YtpfolfplebpeaaaWWords
import Derived.Test.YtpfolfplebpeaaaWLast
import Derived.Test.YtpfolfplebpeaaaWTab
import Derived.Test.YtpfolfplebpeaaaWFour
import Derived.Test.YtpfolfplebpeaaaWQPut
import Derived.Test.YtpfolfplebpeaaaWApart
import Derived.Test.YtpfolfplebpeaaaWArr
import Derived.Test.YtpfolfplebpeaaaWZeros
import Derived.Test.YtpfolfplebpeaaaWFoot
import Derived.Test.YtpfolfplebpeaaaWKept
import Derived.Test.YtpfolfplebpeaaaWShare
import Derived.Test.YtpfolfplebpeaaaWN
import Derived.Test.YtpfolfplebpeaaaWFootNe
import Derived.Test.YtpfolfplebpeaaaWAt
import Derived.Test.YtpfolfplebpeaaaWEqStruct
import Derived.Test.YtpfolfplebpeaaaWRepsOne
import Derived.Test.YtpfolfplebpeaaaWInv
import Derived.Test.YtpfolfplebpeaaaWInvWords
import Derived.Test.YtpfolfplebpeaaaWGuard
import Derived.Test.YtpfolfplebpeaaaWNEv
import Derived.Test.YtpfolfplebpeaaaWMore
namespace Go.Proofs.Ytpfolfplebpeaaa.B
open Go.RowKit Go.Proofs.YtpfolfplebpeaaaW.PrintWords Go.Proofs.YtpfolfplebpeaaaW.PrintLast Go.Proofs.YtpfolfplebpeaaaW.PrintMore
attribute [local go_sem] max2_int min2_int max_two min_two max_three min_three max_four min_four   -- for this text's walks alone
set_option linter.unusedVariables false
set_option linter.unusedSimpArgs false



def errW : Option Int → Value
 | none => .nilIface
 | some c => .iface 0 (.int .i64 c)
theorem errW_none : errW none = .nilIface := rfl
theorem errW_some (c : Int) : errW (some c) = .iface 0 (.int .i64 c) := rfl

theorem info3 : (Try.prog.info? 3).map (fun i => (i.zero, i.size, i.bytes)) = some (some (.int .i64 0), 1, 8) := by kernel_rfl
-- the values' own types

end Go.Proofs.Ytpfolfplebpeaaa.B
