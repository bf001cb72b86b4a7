/- The plain law of SumOf: the two printed functions answer alike. -/
import Derived.Test.YtpfolfplebpeaaaSjoin
import Derived.Test.YtpfolfplebpeaaaLh
import Derived.Test.YtpfolfplebpeaaaL
import Derived.Test.YtpfolfplebpeaaaB7
import Derived.Test.YtpfolfplebpeaaaB8D
namespace Go.Proofs.Ytpfolfplebpeaaa.B
open Go.RowKit Go.Proofs.Ytpfolfplebpeaaa.M Go.Proofs.YtpfolfplebpeaaaW.PrintWords Go.Proofs.YtpfolfplebpeaaaW.PrintLast Go.Proofs.YtpfolfplebpeaaaW.PrintMore
attribute [local irreducible] Go.bits shl shr sd
theorem sz_gen (l : List Int) (hl : l.length ≤ 9223372036854775807) (m : Int) (h0 : 0 ≤ m) (h1 : m ≤ 1048576) : laws_szPoset.f l m = some (if (l.length : Int) ≤ m then m - (l.length : Int) else -1) := by
  unfold laws_szPoset.f laws_szIntS.f
  rw [wrap64_id (by omega) (by omega)]
  by_cases h : (l.length : Int) ≤ m
  · rw [if_pos h, if_neg (by omega), Option.bind_some, if_neg (by omega)]
  · rw [if_neg h, if_pos (by omega), Option.bind_some, if_pos (by omega)]
theorem both_SumOf (l q : List Int) : ∃ w z, w.length ≤ 10 ∧ Ev (fun k => spec_SumOf.f k l q) (w, z) ∧ Ev (fun k => impl_SumOf.f k l q) (w, z) := by
  have hi : ∀ b, Ev (fun k => impl_both.f k l q b) (if joinOk l q = true then (joinB l q b, true) else ([], false)) := fun b => both_ev l q b
  unfold spec_SumOf.f impl_SumOf.f
  cases hk : joinOk l q with
  | false =>
    refine ⟨[], false, by simp, ?_, ?_⟩
    · unfold joinOk at hk
      refine Ev.bind (poGood_ev l) ?_
      cases hg : goodB l with
      | false => exact ev_as (Ev.now _) (fun k => by rw [if_neg (by decide)])
      | true =>
        have hl := (good_len hg).2
        refine ev_bind (poGood_ev q) ?_ (fun k => by rw [if_pos rfl])
        cases hq : goodB q with
        | false => exact ev_as (Ev.now _) (fun k => by rw [if_neg (by decide)])
        | true =>
          have hq' := (good_len hq).2
          rw [hg, hq, Bool.true_and, Bool.true_and, decide_eq_false_iff_not] at hk
          have hw : wrap64 ((l.length : Int) + (q.length : Int)) = (l.length : Int) + (q.length : Int) := wrap64_id (by omega) (by omega)
          exact ev_as (Ev.now _) (fun k => by rw [if_pos rfl, hw, if_pos (by omega)])
    · exact Ev.bind (a := (([] : List Int), false)) (ev_eq (hi 0) (by rw [hk, if_neg (by decide)])) (Ev.now _)
  | true =>
    have hk' := hk
    unfold joinOk at hk'
    rw [Bool.and_eq_true, Bool.and_eq_true, decide_eq_true_eq] at hk'
    obtain ⟨hg, hq, hn⟩ := hk'
    have hl := (good_len hg).2
    have hq' := (good_len hq).2
    have hw : wrap64 ((l.length : Int) + (q.length : Int)) = (l.length : Int) + (q.length : Int) := wrap64_id (by omega) (by omega)
    refine ⟨joinB l q 0, true, by rw [joinB_length]; exact hn, ?_, ?_⟩
    · refine Ev.bind (hg ▸ poGood_ev l) ?_
      refine ev_bind (hq ▸ poGood_ev q) ?_ (fun k => by rw [if_pos rfl])
      exact ev_bind (poJoin_ev l q hl hq' 0) (Ev.now _) (fun k => by rw [if_pos rfl, hw, if_neg (by omega)])
    · exact Ev.bind (a := (joinB l q 0, true)) (ev_eq (hi 0) (by rw [hk, if_pos rfl])) (Ev.now _)
theorem tail_SumOf (l q w : List Int) (z : Bool) (h : l.length ≤ 1048576) (hq : q.length ≤ 1048576) (hw : w.length ≤ 1048576) (h2 : Ev (fun k => impl_SumOf.f k l q) (w, z)) : Ev (fun k => laws_FnExactSumOf.j0 k z z false l q w l q w) true := by
  have e2 : Ev (fun k => laws_FnExactSumOf.j2 k (1 + (w.length : Int)) false (marked w 1)) true := by
    refine ev_stepb (heldPoset_ev w 1 (by omega) (by omega) (by omega)) ?_ (fun k => by simp only [laws_FnExactSumOf.j2]; rw [if_neg (by decide)])
    exact ev_as (Ev.now _) (fun k => by rw [if_neg (by omega), if_pos rfl])
  have e1 : Ev (fun k => laws_FnExactSumOf.j1 k z false l q w w) true := by
    refine ev_stepb (markPoset_ev w 1 (by omega) (by omega) (by omega)) ?_ (fun k => by simp only [laws_FnExactSumOf.j1]; rw [if_neg (by decide)])
    refine ev_bind (heldPoset_ev w 1 (by omega) (by omega) (by omega)) ?_ (fun k => rfl)
    refine ev_bind (toPoset_ev l (by omega)) ?_ (fun k => by rw [if_neg (by omega), if_pos rfl])
    refine ev_bind (toPoset_ev q (by omega)) ?_ (fun k => rfl)
    refine ev_bind h2 ?_ (fun k => rfl)
    refine ev_bind (eqPoset_ev w (by omega)) ?_ (fun k => rfl)
    exact ev_as e2 (fun k => by rw [if_pos rfl, bne_self_eq_false])
  refine ev_stepb (toPoset_ev l (by omega)) ?_ (fun k => by simp only [laws_FnExactSumOf.j0]; rw [if_neg (by decide)])
  refine ev_bind (eqPoset_ev l (by omega)) ?_ (fun k => rfl)
  refine ev_bind (toPoset_ev q (by omega)) ?_ (fun k => by rw [if_pos rfl])
  refine ev_bind (eqPoset_ev q (by omega)) ?_ (fun k => rfl)
  refine ev_bind (markPoset_ev l 1 (by omega) (by omega) (by omega)) ?_ (fun k => by rw [if_pos rfl])
  refine ev_bind (markPoset_ev q (1 + (l.length : Int)) (by omega) (by omega) (by omega)) ?_ (fun k => rfl)
  refine ev_bind (eqPoset_ev w (by omega)) ?_ (fun k => by rw [if_neg (by omega)])
  exact ev_as e1 (fun k => by rw [if_pos rfl, bne_self_eq_false])
theorem FnExactSumOf (l q : List Int) (hm : l.length ≤ 9223372036854775807) (_ : ∀ x ∈ l, (Lit.int .i64 x).wf = true) (hn : q.length ≤ 9223372036854775807) (_ : ∀ x ∈ q, (Lit.int .i64 x).wf = true) : ∃ k, laws_FnExactSumOf.f k l q = some true := by
  apply Ev.rounds
  unfold laws_FnExactSumOf.f
  rw [sz_gen l hm 1048576 (by decide) (by decide)]
  simp only [Option.bind_some]
  by_cases h : (l.length : Int) ≤ 1048576
  · simp only [if_pos h]
    rw [sz_gen q hn (1048576 - (l.length : Int)) (by omega) (by omega)]
    simp only [Option.bind_some]
    by_cases h' : (q.length : Int) ≤ 1048576 - (l.length : Int)
    · simp only [if_pos h']
      obtain ⟨w, z, hw, h1, h2⟩ := both_SumOf l q
      refine ev_bind (toPoset_ev l (by omega)) ?_ (fun k => by rw [if_neg (by omega), if_neg (by omega)])
      refine Ev.bind (toPoset_ev q (by omega)) ?_
      refine Ev.bind h1 ?_
      refine Ev.bind (toPoset_ev l (by omega)) ?_
      refine Ev.bind (toPoset_ev q (by omega)) ?_
      refine Ev.bind h2 ?_
      refine Ev.bind (eqPoset_ev w (by omega)) ?_
      exact ev_as (tail_SumOf l q w z (by omega) (by omega) (by omega) h2) (fun k => by rw [if_pos rfl, bne_self_eq_false])
    · exact ev_as (Ev.now _) (fun k => by rw [if_neg (by omega), if_neg h', if_pos (by decide)])
  · exact ev_as (Ev.now _) (fun k => by rw [if_neg h, if_pos (by decide)])
end Go.Proofs.Ytpfolfplebpeaaa.B
