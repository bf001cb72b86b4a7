/- Two posets, one behind the other: the reference's and the program's. -/
import Derived.Test.YtpfolfplebpeaaaSclone
import Derived.Test.YtpfolfplebpeaaaB1
import Derived.Test.YtpfolfplebpeaaaB3
namespace Go.Proofs.Ytpfolfplebpeaaa.B
open Go.RowKit Go.Proofs.Ytpfolfplebpeaaa.M Go.Proofs.YtpfolfplebpeaaaW.PrintWords Go.Proofs.YtpfolfplebpeaaaW.PrintLast Go.Proofs.YtpfolfplebpeaaaW.PrintMore
attribute [local irreducible] Go.bits shl shr sd
theorem good_len {l : List Int} (h : goodB l = true) : 1 ≤ l.length ∧ l.length ≤ 10 := by
  unfold goodB at h
  rw [Bool.and_eq_true, decide_eq_true_eq] at h
  omega
def joinB (l q : List Int) (b : Int) : List Int := l ++ q.map (fun x => Go.bits .or .i64 (shl .i64 x (l.length : Int)) b)
def joinOk (l q : List Int) : Bool := goodB l && (goodB q && decide (l.length + q.length ≤ 10))
theorem joinB_length (l q : List Int) (b : Int) : (joinB l q b).length = l.length + q.length := by unfold joinB; simp
theorem poJoin_ev (l q : List Int) (hl : l.length ≤ 10) (hq : q.length ≤ 10) (b : Int) : Ev (fun k => spec_poJoin.f k l q b) (joinB l q b) := by
  have H : ∀ (i : Nat) (st : List Int), i ≤ q.length → st.length ≤ 10 + i → Ev (fun k => spec_poJoin.l0 k b q (q.length : Int) (i : Int) l st) (st ++ (q.drop i).map (fun x => Go.bits .or .i64 (shl .i64 x (l.length : Int)) b)) := by
    refine ev_down (fun k (st : List Int) i => spec_poJoin.l0 k b q (q.length : Int) i l st) (fun i st => st ++ (q.drop i).map (fun x => Go.bits .or .i64 (shl .i64 x (l.length : Int)) b)) q.length (fun i st => st.length ≤ 10 + i) ?_ ?_
    · intro st _
      rw [List.drop_length, List.map_nil, List.append_nil]
      exact ev_step (Ev.now _) (fun k => by simp only [spec_poJoin.l0]; rw [if_neg (by omega)])
    · intro i st hi hst ih
      have c1 : (i : Int) < (q.length : Int) := by omega
      have c2 : 0 ≤ (i : Int) := by omega
      have c3 : st.length < 17592186044416 := by omega
      have hw : wrap64 ((i : Int) + 1) = (i : Int) + 1 := wrap64_id (by omega) (by omega)
      have := ih (st ++ [Go.bits .or .i64 (shl .i64 (q.getD i 0) (l.length : Int)) b]) (by rw [List.length_append, List.length_singleton]; omega)
      rw [drop_step q 0 hi, List.map_cons]
      rw [List.append_assoc] at this
      exact ev_step this (fun k => by simp only [spec_poJoin.l0]; rw [if_pos c1, if_pos c2, if_pos c1, if_pos c3, rd_nat, hw])
  unfold spec_poJoin.f spec_l1Own.f joinB
  have h := H 0 l (by omega) (by omega)
  rw [List.drop_zero] at h
  refine ev_as h (fun k => ?_)
  rw [Option.bind_some, if_pos (by simp; omega), Option.bind_some]
  rfl
theorem both_ev (l q : List Int) (b : Int) : Ev (fun k => impl_both.f k l q b) (if joinOk l q = true then (joinB l q b, true) else ([], false)) := by
  have no : Ev (fun k => impl_both.j0 k b true l q) (([] : List Int), false) := ev_step (Ev.now _) (fun k => by simp only [impl_both.j0]; rw [if_pos trivial])
  unfold impl_both.f joinOk
  refine Ev.bind (IsPoset_ev l) ?_
  cases hg : goodB l with
  | false => rw [Bool.false_and, if_neg (by decide)]; exact ev_as no (fun k => by rw [if_neg (by decide)])
  | true =>
    have hl := (good_len hg).2
    rw [Bool.true_and]
    refine ev_bind (IsPoset_ev q) ?_ (fun k => by rw [if_pos rfl])
    cases hq : goodB q with
    | false => rw [Bool.false_and, if_neg (by decide)]; exact ev_as no (fun k => by rw [if_neg (by decide)])
    | true =>
      have hq' := (good_len hq).2
      have hw : wrap64 ((l.length : Int) + (q.length : Int)) = (l.length : Int) + (q.length : Int) := wrap64_id (by omega) (by omega)
      rw [Bool.true_and]
      unfold impl_Poset_n.f
      by_cases h : l.length + q.length ≤ 10
      · rw [decide_eq_true h, if_pos rfl]
        refine ev_as (f := fun k => impl_both.j0 k b false l q) ?_ (fun k => by rw [if_pos rfl, Option.bind_some, Option.bind_some, hw, decide_eq_false (by omega)])
        have H : ∀ (i : Nat) (st : List Int), i ≤ q.length → st.length ≤ 10 + i → Ev (fun k => impl_both.l0 k b q (q.length : Int) (i : Int) l st) (st ++ (q.drop i).map (fun x => Go.bits .or .i64 (shl .i64 x (l.length : Int)) b), true) := by
          refine ev_down (fun k (st : List Int) i => impl_both.l0 k b q (q.length : Int) i l st) (fun i st => (st ++ (q.drop i).map (fun x => Go.bits .or .i64 (shl .i64 x (l.length : Int)) b), true)) q.length (fun i st => st.length ≤ 10 + i) ?_ ?_
          · intro st _
            rw [List.drop_length, List.map_nil, List.append_nil]
            exact ev_step (Ev.now _) (fun k => by simp only [impl_both.l0]; rw [if_neg (by omega)])
          · intro i st hi hst ih
            have c1 : (i : Int) < (q.length : Int) := by omega
            have c2 : 0 ≤ (i : Int) := by omega
            have c3 : st.length < 17592186044416 := by omega
            have c4 : 0 ≤ (l.length : Int) := by omega
            have hw : wrap64 ((i : Int) + 1) = (i : Int) + 1 := wrap64_id (by omega) (by omega)
            have := ih (st ++ [Go.bits .or .i64 (shl .i64 (q.getD i 0) (l.length : Int)) b]) (by rw [List.length_append, List.length_singleton]; omega)
            rw [drop_step q 0 hi, List.map_cons]
            rw [List.append_assoc] at this
            exact ev_step this (fun k => by simp only [impl_both.l0, impl_Poset_n.f]; rw [if_pos c1, if_pos c2, if_pos c1, Option.bind_some, if_pos c4, if_pos c3, rd_nat, hw])
        have h0 := H 0 l (by omega) (by omega)
        rw [List.drop_zero] at h0
        unfold joinB
        refine ev_step h0 (fun k => ?_)
        simp only [impl_both.j0]
        rw [if_neg (by decide), clone_is l (by omega), Option.bind_some]
        rfl
      · rw [decide_eq_false h, if_neg (by decide)]
        exact ev_as no (fun k => by rw [if_pos rfl, Option.bind_some, Option.bind_some, hw, decide_eq_true (by omega)])
end Go.Proofs.Ytpfolfplebpeaaa.B
