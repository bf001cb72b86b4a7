/- The plain law of AntichainRow: the two printed functions answer alike. -/
import Derived.Test.YtabngdbjlgjfaaaSrow
import Derived.Test.YtabngdbjlgjfaaaStop
import Derived.Test.YtabngdbjlgjfaaaL
import Derived.Test.YtabngdbjlgjfaaaB8
import Derived.Test.YtabngdbjlgjfaaaB9
namespace Go.Proofs.Ytabngdbjlgjfaaa.B
open Go.RowKit Go.Proofs.Ytabngdbjlgjfaaa.M Go.Proofs.YtabngdbjlgjfaaaW.PrintWords Go.Proofs.YtabngdbjlgjfaaaW.PrintLast Go.Proofs.YtabngdbjlgjfaaaW.PrintMore
attribute [local irreducible] Go.bits shl shr sd
theorem both_AntichainRow (l : List Int) (a : Int) : ∃ r, Ev (fun k => spec_AntichainRow.f k l a) r ∧ Ev (fun k => impl_AntichainRow.f k l a) r := by
  have no : ∀ x : Int, Ev (fun k => spec_AntichainRow.j0 k x true l) (0, false) := fun x => ev_step (Ev.now _) (fun k => by simp only [spec_AntichainRow.j0]; rw [if_pos trivial])
  unfold spec_AntichainRow.f impl_AntichainRow.f impl_IsAntichain.f
  cases hg : goodB l with
  | false => exact ⟨(0, false), Ev.bind (hg ▸ poGood_ev l) (ev_as (no a) (fun k => by rw [if_neg (by decide)])), Ev.bind (Ev.bind (show Ev _ false from ev_eq (isSet_ev l a) (by rw [hg]; rfl)) (ev_as (Ev.now (false, false)) (fun k => by rw [if_neg (by decide)]))) (ev_as (Ev.now _) (fun k => by rw [if_neg (by decide)]))⟩
  | true =>
    have hlen := goodB_length hg
    cases hs : setB l a with
    | false => exact ⟨(0, false), Ev.bind (hg ▸ poGood_ev l) (ev_as (no a) (fun k => by rw [if_pos rfl, poSet_is l (by omega), hs, Option.bind_some, if_neg (by decide)])), Ev.bind (Ev.bind (show Ev _ false from ev_eq (isSet_ev l a) (by rw [hg, hs]; rfl)) (ev_as (Ev.now (false, false)) (fun k => by rw [if_neg (by decide)]))) (ev_as (Ev.now _) (fun k => by rw [if_neg (by decide)]))⟩
    | true =>
      obtain ⟨P, hP⟩ := good_of hg
      obtain ⟨s, rfl, hs2⟩ := set_nat hs
      have hs3 : s < 2 ^ P.length := by have := hP.length; rw [show P.length = l.length by omega]; exact hs2
      have h1 := top_ev hP hs3
      by_cases ht : tp P s = s
      · have hne : (((tp P s : Nat) : Int) != (s : Int)) = false := by rw [ht]; simp
        refine ⟨(((tp P (rw_ P (dn P s)) : Nat) : Int), true), Ev.bind (hg ▸ poGood_ev l) (ev_bind (poTop_ev hP hs3) (F := fun k t => spec_AntichainRow.j0 k (s : Int) (t != (s : Int)) l) ?_ (fun k => by rw [if_pos rfl, poSet_is l (by omega), hs, Option.bind_some, if_pos rfl])), Ev.bind (Ev.bind (show Ev _ true from ev_eq (isSet_ev l _) (by rw [hg, hs]; rfl)) (ev_bind h1 (Ev.now ((((tp P s : Nat) : Int) == (s : Int)), true)) (fun k => by rw [if_pos rfl]))) ?_⟩
        · skip
          rw [hne]
          refine ev_stepb (poDown_ev hP hs3) ?_ (fun k => by simp only [spec_AntichainRow.j0]; rw [if_neg (by decide)])
          refine Ev.bind (tgRow_ev hP (dn_lt hP hs3)) ?_
          exact Ev.bind (poTop_ev hP (rw_lt hP _)) (Ev.now _)
        · have he : (((tp P s : Nat) : Int) == (s : Int)) = true := by rw [ht]; simp
          refine ev_bind (close_ev hP hs3) ?_ (fun k => by rw [if_pos he])
          refine Ev.bind (row_ev hP (dn_lt hP hs3)) ?_
          exact Ev.bind (top_ev hP (rw_lt hP _)) (Ev.now _)
      · have hne : (((tp P s : Nat) : Int) != (s : Int)) = true := by rw [bne_iff_ne]; omega
        have he : ¬ (((tp P s : Nat) : Int) == (s : Int)) = true := by rw [beq_iff_eq]; omega
        refine ⟨(0, false), Ev.bind (hg ▸ poGood_ev l) (ev_bind (poTop_ev hP hs3) (F := fun k t => spec_AntichainRow.j0 k (s : Int) (t != (s : Int)) l) ?_ (fun k => by rw [if_pos rfl, poSet_is l (by omega), hs, Option.bind_some, if_pos rfl])), Ev.bind (Ev.bind (show Ev _ true from ev_eq (isSet_ev l _) (by rw [hg, hs]; rfl)) (ev_bind h1 (Ev.now ((((tp P s : Nat) : Int) == (s : Int)), true)) (fun k => by rw [if_pos rfl]))) ?_⟩
        · rw [hne]
          exact no _
        · exact ev_as (Ev.now _) (fun k => by rw [if_neg he])

theorem tail_AntichainRow (l : List Int) (h : l.length ≤ 1048576) : Ev (fun k => laws_FnExactAntichainRow.j0 k false l l) true := by
  refine ev_step (f := fun k => (laws_toPoset.f k l).bind fun t => (laws_eqPoset.f k l t).bind fun u => if u = true then some true else some false) ?_ (fun k => by simp only [laws_FnExactAntichainRow.j0]; rw [if_neg (by decide)])
  refine Ev.bind (toPoset_ev l (by omega)) ?_
  exact Ev.bind (eqPoset_ev l (by omega)) (Ev.now _)
theorem FnExactAntichainRow (l : List Int) (a : Int) (hm : l.length ≤ 9223372036854775807) (_ : ∀ x ∈ l, (Lit.int .i64 x).wf = true) (_ : (Lit.int .i64 a).wf = true) : ∃ k, laws_FnExactAntichainRow.f k l a = some true := by
  apply Ev.rounds
  unfold laws_FnExactAntichainRow.f
  refine sz_bind l hm _ true true (fun h => ?_) (fun _ => rfl)
  obtain ⟨r, h1, h2⟩ := both_AntichainRow l a
  refine Ev.bind (toPoset_ev l (by omega)) ?_
  refine Ev.bind h1 ?_
  refine Ev.bind (toPoset_ev l (by omega)) ?_
  refine Ev.bind h2 ?_
  exact ev_as (tail_AntichainRow l h) (fun k => by first | (rw [if_pos rfl, bne_self_eq_false]) | (rw [bne_self_eq_false, bne_self_eq_false, if_neg (by decide)]))
end Go.Proofs.Ytabngdbjlgjfaaa.B
