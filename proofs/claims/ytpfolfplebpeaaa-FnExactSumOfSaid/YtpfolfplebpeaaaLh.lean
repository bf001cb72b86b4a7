/- Marks of a poset, found again. -/
import Derived.Test.YtpfolfplebpeaaaLm
import Derived.Test.YtpfolfplebpeaaaB4
namespace Go.Proofs.Ytpfolfplebpeaaa.B
open Go.RowKit Go.Proofs.Ytpfolfplebpeaaa.M Go.Proofs.YtpfolfplebpeaaaW.PrintWords Go.Proofs.YtpfolfplebpeaaaW.PrintLast Go.Proofs.YtpfolfplebpeaaaW.PrintMore
attribute [local irreducible] Go.bits shl shr sd
theorem heldPoset_ev (l : List Int) (k0 : Int) (hl : l.length ≤ 35184372088832) (h0 : 0 ≤ k0) (h1 : k0 ≤ 35184372088832) : Ev (fun k => laws_heldPoset.f k (marked l k0) k0) (k0 + (l.length : Int)) := by
  unfold laws_heldPoset.f
  exact Ev.bind (heldIntS_ev l k0 hl h0 h1) (ev_as (Ev.now _) (fun k => by rw [if_neg (by omega)]))
end Go.Proofs.Ytpfolfplebpeaaa.B
