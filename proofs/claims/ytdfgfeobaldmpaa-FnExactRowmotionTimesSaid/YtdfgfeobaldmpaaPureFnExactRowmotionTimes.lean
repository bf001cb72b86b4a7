/- The plain law of RowmotionTimes: the two printed functions answer alike. -/
import Derived.Test.YtdfgfeobaldmpaaStimes
import Derived.Test.YtdfgfeobaldmpaaL
import Derived.Test.YtdfgfeobaldmpaaB12
namespace Go.Proofs.Ytdfgfeobaldmpaa.B
open Go.RowKit Go.Proofs.Ytdfgfeobaldmpaa.M Go.Proofs.YtdfgfeobaldmpaaW.PrintWords Go.Proofs.YtdfgfeobaldmpaaW.PrintLast Go.Proofs.YtdfgfeobaldmpaaW.PrintMore
attribute [local irreducible] Go.bits shl shr sd
theorem spec_l1 {l : List Int} {P : List Nat} (hP : Good l P) : ∀ (n : Nat) (st : Nat), n ≤ 1000 → st < 2 ^ P.length → idl P st = true → Ev (fun k => spec_RowmotionTimes.l1 k (st : Int) (-(n : Int)) l) (((foldFrom (fun o _ => bk P o) 0 n st : Nat) : Int), true) := by
  intro n
  induction n with
  | zero =>
    intro st _ _ _
    rw [foldFrom_end]
    exact ev_step (Ev.now _) (fun k => by simp only [spec_RowmotionTimes.l1]; rw [if_neg (by omega)])
  | succ n ih =>
    intro st hn hs hi
    have hw : wrap64 (-((n + 1 : Nat) : Int) + 1) = -(n : Int) := by rw [wrap64_id (by omega) (by omega)]; omega
    have h1 : foldFrom (fun o _ => bk P o) 0 (n + 1) st = foldFrom (fun o _ => bk P o) 0 n (bk P st) := by
      rw [foldFrom_step _ (by omega)]
      unfold foldFrom
      rw [show n + 1 - (0 + 1) = n by omega, show n - 0 = n by omega]
      have : ∀ (m i j : Nat) (x : Nat), (List.range' i m).foldl (fun o _ => bk P o) x = (List.range' j m).foldl (fun o _ => bk P o) x := by
        intro m
        induction m with
        | zero => intro i j x; rfl
        | succ m ihm => intro i j x; rw [List.range'_succ, List.range'_succ, List.foldl_cons, List.foldl_cons]; exact ihm _ _ _
      exact this _ _ _ _
    rw [h1]
    exact ev_stepb (F := fun k t => spec_RowmotionTimes.l1 k t (-(n : Int)) l) (tgBack_ev hP hs) (ih _ (by omega) (bk_lt P st) (bk_idl hP st)) (fun k => by simp only [spec_RowmotionTimes.l1]; rw [if_pos (by omega), hw])
theorem spec_l0 {l : List Int} {P : List Nat} (hP : Good l P) : ∀ (n : Nat) (st : Nat), n ≤ 1000 → st < 2 ^ P.length → idl P st = true → Ev (fun k => spec_RowmotionTimes.l0 k (st : Int) (n : Int) l) (((foldFrom (fun o _ => rw_ P o) 0 n st : Nat) : Int), true) := by
  intro n
  induction n with
  | zero =>
    intro st _ h1 h2
    rw [foldFrom_end]
    have := spec_l1 hP 0 st (by omega) h1 h2
    rw [foldFrom_end] at this
    exact ev_step this (fun k => by simp only [spec_RowmotionTimes.l0]; rw [if_neg (by omega)]; rfl)
  | succ n ih =>
    intro st hn hs hi
    have hw : wrap64 (((n + 1 : Nat) : Int) - 1) = (n : Int) := by rw [wrap64_id (by omega) (by omega)]; omega
    have h1 : foldFrom (fun o _ => rw_ P o) 0 (n + 1) st = foldFrom (fun o _ => rw_ P o) 0 n (rw_ P st) := by
      rw [foldFrom_step _ (by omega)]
      unfold foldFrom
      rw [show n + 1 - (0 + 1) = n by omega, show n - 0 = n by omega]
      have : ∀ (m i j : Nat) (x : Nat), (List.range' i m).foldl (fun o _ => rw_ P o) x = (List.range' j m).foldl (fun o _ => rw_ P o) x := by
        intro m
        induction m with
        | zero => intro i j x; rfl
        | succ m ihm => intro i j x; rw [List.range'_succ, List.range'_succ, List.foldl_cons, List.foldl_cons]; exact ihm _ _ _
      exact this _ _ _ _
    rw [h1]
    exact ev_stepb (F := fun k t => spec_RowmotionTimes.l0 k t (n : Int) l) (tgRow_ev hP hs) (ih _ (by omega) (rw_lt hP st) (rw_idl hP st)) (fun k => by simp only [spec_RowmotionTimes.l0]; rw [if_pos (by omega), hw])
theorem both_RowmotionTimes (l : List Int) (a b : Int) : ∃ r, Ev (fun k => spec_RowmotionTimes.f k l a b) r ∧ Ev (fun k => impl_RowmotionTimes.f k l a b) r := by
  refine ⟨_, ?_, implTimes_ev l a b⟩
  unfold spec_RowmotionTimes.f
  refine Ev.bind (tgIn_ev l a) ?_
  cases hg : inB l a with
  | false => exact ev_as (ev_step (g := fun k => spec_RowmotionTimes.j0 k a b true l) (Ev.now _) (fun k => by simp only [spec_RowmotionTimes.j0]; rw [if_pos trivial]; rfl)) (fun k => by rw [if_neg (by decide)])
  | true =>
    obtain ⟨P, s, hP, rfl, hs, hi⟩ := in_nat hg
    by_cases hb : -1000 ≤ b ∧ b ≤ 1000
    · rw [if_pos rfl, if_pos hb, hP.nat, Int.toNat_natCast]
      refine ev_as (ev_step (g := fun k => spec_RowmotionTimes.j0 k (s : Int) b false l) (f := fun k => spec_RowmotionTimes.l0 k (s : Int) b l) ?_ (fun k => by simp only [spec_RowmotionTimes.j0]; rw [if_neg (by decide)])) (fun k => by rw [if_pos rfl, l1In_is, decide_eq_true hb, Option.bind_some]; rfl)
      unfold rowsB
      by_cases h0 : 0 ≤ b
      · rw [if_pos h0]
        have := spec_l0 hP b.toNat s (by omega) hs hi
        rwa [show ((b.toNat : Nat) : Int) = b by omega] at this
      · rw [if_neg h0]
        have := spec_l1 hP (-b).toNat s (by omega) hs hi
        rw [show -(((-b).toNat : Nat) : Int) = b by omega] at this
        exact ev_step this (fun k => by simp only [spec_RowmotionTimes.l0]; rw [if_neg (by omega)])
    · rw [if_pos rfl, if_neg hb]
      exact ev_as (ev_step (g := fun k => spec_RowmotionTimes.j0 k (s : Int) b true l) (Ev.now _) (fun k => by simp only [spec_RowmotionTimes.j0]; rw [if_pos trivial])) (fun k => by rw [if_pos rfl, l1In_is, decide_eq_false hb, Option.bind_some]; rfl)

theorem tail_RowmotionTimes (l : List Int) (h : l.length ≤ 1048576) : Ev (fun k => laws_FnExactRowmotionTimes.j0 k false l l) true := by
  refine ev_step (f := fun k => (laws_toPoset.f k l).bind fun t => (laws_eqPoset.f k l t).bind fun u => if u = true then some true else some false) ?_ (fun k => by simp only [laws_FnExactRowmotionTimes.j0]; rw [if_neg (by decide)])
  refine Ev.bind (toPoset_ev l (by omega)) ?_
  exact Ev.bind (eqPoset_ev l (by omega)) (Ev.now _)
theorem FnExactRowmotionTimes (l : List Int) (a : Int) (b : Int) (hm : l.length ≤ 9223372036854775807) (_ : ∀ x ∈ l, (Lit.int .i64 x).wf = true) (_ : (Lit.int .i64 a).wf = true) (_ : (Lit.int .i64 b).wf = true) : ∃ k, laws_FnExactRowmotionTimes.f k l a b = some true := by
  apply Ev.rounds
  unfold laws_FnExactRowmotionTimes.f
  refine sz_bind l hm _ true true (fun h => ?_) (fun _ => rfl)
  obtain ⟨r, h1, h2⟩ := both_RowmotionTimes l a b
  refine Ev.bind (toPoset_ev l (by omega)) ?_
  refine Ev.bind h1 ?_
  refine Ev.bind (toPoset_ev l (by omega)) ?_
  refine Ev.bind h2 ?_
  exact ev_as (tail_RowmotionTimes l h) (fun k => by first | (rw [if_pos rfl, bne_self_eq_false]) | (rw [bne_self_eq_false, bne_self_eq_false, if_neg (by decide)]))
end Go.Proofs.Ytdfgfeobaldmpaa.B
