/- Lists copied by Go's library. -/
import Derived.Test.YtpfolfplebpeaaaG
import Derived.Test.YtpfolfplebpeaaaB2
namespace Go.Proofs.Ytpfolfplebpeaaa.B
open Go.RowKit Go.Proofs.Ytpfolfplebpeaaa.M Go.Proofs.YtpfolfplebpeaaaW.PrintWords Go.Proofs.YtpfolfplebpeaaaW.PrintLast Go.Proofs.YtpfolfplebpeaaaW.PrintMore
attribute [local irreducible] Go.bits shl shr sd
theorem clone_is (o : List Int) (ho : o.length ≤ 1048576) : slices_Clone_int_int.f o = some o := by
  unfold slices_Clone_int_int.f
  rw [Option.bind_some, if_pos (by simp; omega)]
  rfl
end Go.Proofs.Ytpfolfplebpeaaa.B
