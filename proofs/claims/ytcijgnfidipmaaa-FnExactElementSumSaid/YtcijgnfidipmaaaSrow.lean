/- The ideal behind rowmotion: both sides. -/
import Derived.Test.YtcijgnfidipmaaaSdown
import Derived.Test.YtcijgnfidipmaaaSclose
import Derived.Test.YtcijgnfidipmaaaSbot
import Derived.Test.YtcijgnfidipmaaaMrow
import Derived.Test.YtcijgnfidipmaaaB4
import Derived.Test.YtcijgnfidipmaaaB5
namespace Go.Proofs.Ytcijgnfidipmaaa.B
open Go.RowKit Go.Proofs.Ytcijgnfidipmaaa.M Go.Proofs.YtcijgnfidipmaaaW.PrintWords Go.Proofs.YtcijgnfidipmaaaW.PrintLast Go.Proofs.YtcijgnfidipmaaaW.PrintMore
attribute [local irreducible] Go.bits shl shr sd
theorem tgRow_ev {l : List Int} {P : List Nat} (hP : Good l P) {s : Nat} (hs : s < 2 ^ P.length) : Ev (fun k => spec_tgRow.f k l (s : Int)) ((rw_ P s : Nat) : Int) := by
  have hn := hP.n10
  have hl := hP.length
  have h1 := Nat.one_le_two_pow (n := P.length)
  have hall : 2 ^ P.length - 1 < 2 ^ P.length := by omega
  have hc := andNot_nat (p63 hall (by omega)) (p63 hs (by omega))
  unfold spec_tgRow.f
  refine ev_bind (poBottom_ev hP (sd_lt (b := s) hall)) ?_ (fun k => by rw [hl, mask_sub (by omega), hc])
  exact Ev.bind (poDown_ev hP (bm_lt _)) (Ev.now _)
theorem row_ev {l : List Int} {P : List Nat} (hP : Good l P) {s : Nat} (hs : s < 2 ^ P.length) : Ev (fun k => impl_Poset_row.f k l (s : Int)) ((rw_ P s : Nat) : Int) := by
  have hn := hP.n10
  have hl := hP.length
  have h1 := Nat.one_le_two_pow (n := P.length)
  have hall : 2 ^ P.length - 1 < 2 ^ P.length := by omega
  have hc := andNot_nat (p63 hall (by omega)) (p63 hs (by omega))
  unfold impl_Poset_row.f
  refine ev_bind (bottom_ev hP (sd_lt (b := s) hall)) ?_ (fun k => by rw [all_is l (by omega), Option.bind_some, show l.length = P.length by omega, hc])
  exact Ev.bind (close_ev hP (bm_lt _)) (Ev.now _)
end Go.Proofs.Ytcijgnfidipmaaa.B
