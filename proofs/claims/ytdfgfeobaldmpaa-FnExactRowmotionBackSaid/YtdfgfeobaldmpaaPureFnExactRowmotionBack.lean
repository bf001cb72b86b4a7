/- The plain law of RowmotionBack: the two printed functions answer alike. -/
import Derived.Test.YtdfgfeobaldmpaaStimes
import Derived.Test.YtdfgfeobaldmpaaL
import Derived.Test.YtdfgfeobaldmpaaB11
namespace Go.Proofs.Ytdfgfeobaldmpaa.B
open Go.RowKit Go.Proofs.Ytdfgfeobaldmpaa.M Go.Proofs.YtdfgfeobaldmpaaW.PrintWords Go.Proofs.YtdfgfeobaldmpaaW.PrintLast Go.Proofs.YtdfgfeobaldmpaaW.PrintMore
attribute [local irreducible] Go.bits shl shr sd
theorem both_RowmotionBack (l : List Int) (a : Int) : ∃ r, Ev (fun k => spec_RowmotionBack.f k l a) r ∧ Ev (fun k => impl_RowmotionBack.f k l a) r := by
  unfold spec_RowmotionBack.f impl_RowmotionBack.f
  have hi := implTimes_ev l a (-1)
  cases hg : inB l a with
  | false =>
    rw [hg, if_neg (by decide)] at hi
    exact ⟨(0, false), Ev.bind (hg ▸ tgIn_ev l a) (ev_as (Ev.now _) (fun k => by rw [if_neg (by decide)])), Ev.bind hi (Ev.now _)⟩
  | true =>
    rw [hg, if_pos rfl, if_pos (by decide)] at hi
    obtain ⟨P, s, hP, rfl, hs, hii⟩ := in_nat hg
    rw [hP.nat, Int.toNat_natCast] at hi
    exact ⟨_, Ev.bind (hg ▸ tgIn_ev l _) (ev_bind (tgBack_ev hP hs) (Ev.now _) (fun k => by rw [if_pos rfl])), Ev.bind hi (Ev.now _)⟩

theorem tail_RowmotionBack (l : List Int) (h : l.length ≤ 1048576) : Ev (fun k => laws_FnExactRowmotionBack.j0 k false l l) true := by
  refine ev_step (f := fun k => (laws_toPoset.f k l).bind fun t => (laws_eqPoset.f k l t).bind fun u => if u = true then some true else some false) ?_ (fun k => by simp only [laws_FnExactRowmotionBack.j0]; rw [if_neg (by decide)])
  refine Ev.bind (toPoset_ev l (by omega)) ?_
  exact Ev.bind (eqPoset_ev l (by omega)) (Ev.now _)
theorem FnExactRowmotionBack (l : List Int) (a : Int) (hm : l.length ≤ 9223372036854775807) (_ : ∀ x ∈ l, (Lit.int .i64 x).wf = true) (_ : (Lit.int .i64 a).wf = true) : ∃ k, laws_FnExactRowmotionBack.f k l a = some true := by
  apply Ev.rounds
  unfold laws_FnExactRowmotionBack.f
  refine sz_bind l hm _ true true (fun h => ?_) (fun _ => rfl)
  obtain ⟨r, h1, h2⟩ := both_RowmotionBack l a
  refine Ev.bind (toPoset_ev l (by omega)) ?_
  refine Ev.bind h1 ?_
  refine Ev.bind (toPoset_ev l (by omega)) ?_
  refine Ev.bind h2 ?_
  exact ev_as (tail_RowmotionBack l h) (fun k => by first | (rw [if_pos rfl, bne_self_eq_false]) | (rw [bne_self_eq_false, bne_self_eq_false, if_neg (by decide)]))
end Go.Proofs.Ytdfgfeobaldmpaa.B
