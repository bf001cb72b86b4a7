/- What the laws' own helpers answer: a poset's size, its copy. -/
import Derived.Test.YtpfolfplebpeaaaL0
import Derived.Test.YtpfolfplebpeaaaB1
namespace Go.Proofs.Ytpfolfplebpeaaa.B
open Go.RowKit Go.Proofs.Ytpfolfplebpeaaa.M Go.Proofs.YtpfolfplebpeaaaW.PrintWords Go.Proofs.YtpfolfplebpeaaaW.PrintLast Go.Proofs.YtpfolfplebpeaaaW.PrintMore
attribute [local irreducible] Go.bits shl shr sd
theorem sz_is (l : List Int) (hl : l.length ≤ 9223372036854775807) : laws_szPoset.f l 1048576 = some (if l.length ≤ 1048576 then 1048576 - (l.length : Int) else -1) := by
  unfold laws_szPoset.f laws_szIntS.f
  rw [wrap64_id (by omega) (by omega)]
  by_cases h : l.length ≤ 1048576
  · rw [if_neg (by omega), Option.bind_some, if_neg (by omega), if_pos h]
  · rw [if_pos (by omega), Option.bind_some, if_pos (by omega), if_neg h]
/-- The law's look at its poset's size. -/
theorem sz_bind {β : Type} (l : List Int) (hl : l.length ≤ 9223372036854775807) (F : Nat → Option β) (r r0 : β) (h : l.length ≤ 1048576 → Ev F r) (h2 : 1048576 < l.length → r = r0) :
    Ev (fun k => (laws_szPoset.f l 1048576).bind fun t => if t < 0 then some r0 else F k) r := by
  rw [sz_is l hl]
  by_cases hc : l.length ≤ 1048576
  · exact ev_as (h hc) (fun k => by rw [Option.bind_some, if_pos hc, if_neg (by omega)])
  · rw [h2 (by omega)]
    exact ev_as (Ev.now _) (fun k => by rw [Option.bind_some, if_neg hc, if_pos (by decide)])
theorem toPoset_ev (l : List Int) (hl : l.length ≤ 35184372088832) : Ev (fun k => laws_toPoset.f k l) l := by
  unfold laws_toPoset.f
  exact Ev.bind (toIntS_ev l hl) (Ev.now _)
end Go.Proofs.Ytpfolfplebpeaaa.B
