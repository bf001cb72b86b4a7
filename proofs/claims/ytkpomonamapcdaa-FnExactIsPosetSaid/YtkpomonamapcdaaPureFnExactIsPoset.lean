/- The plain law of IsPoset: the two printed functions answer alike. -/
import Derived.Test.YtkpomonamapcdaaG
import Derived.Test.YtkpomonamapcdaaL
import Derived.Test.YtkpomonamapcdaaB27
namespace Go.Proofs.Ytkpomonamapcdaa.B
open Go.RowKit Go.Proofs.Ytkpomonamapcdaa.M Go.Proofs.YtkpomonamapcdaaW.PrintWords Go.Proofs.YtkpomonamapcdaaW.PrintLast Go.Proofs.YtkpomonamapcdaaW.PrintMore
theorem FnExactIsPoset (l : List Int) (hm : l.length ≤ 9223372036854775807) (_ : ∀ x ∈ l, (Lit.int .i64 x).wf = true) : ∃ k, laws_FnExactIsPoset.f k l = some true := by
  apply Ev.rounds
  unfold laws_FnExactIsPoset.f
  refine sz_bind l hm _ true true (fun h => ?_) (fun _ => rfl)
  refine Ev.bind (toPoset_ev l (by omega)) ?_
  unfold spec_IsPoset.f
  refine Ev.bind (Ev.bind (poGood_ev l) (Ev.now _)) ?_
  refine Ev.bind (toPoset_ev l (by omega)) ?_
  refine Ev.bind (IsPoset_ev l) ?_
  refine ev_as (f := fun k => (laws_toPoset.f k l).bind fun t => (laws_eqPoset.f k l t).bind fun u => if u = true then some true else some false) ?_ (fun k => by rw [if_neg (by simp)])
  refine Ev.bind (toPoset_ev l (by omega)) ?_
  exact Ev.bind (eqPoset_ev l (by omega)) (Ev.now _)
end Go.Proofs.Ytkpomonamapcdaa.B
