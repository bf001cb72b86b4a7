/- The plain law of CanToggle: the two printed functions answer alike. -/
import Derived.Test.YtabngdbjlgjfaaaStog
import Derived.Test.YtabngdbjlgjfaaaStoi
import Derived.Test.YtabngdbjlgjfaaaSin
import Derived.Test.YtabngdbjlgjfaaaL
import Derived.Test.YtabngdbjlgjfaaaB10
import Derived.Test.YtabngdbjlgjfaaaB11
namespace Go.Proofs.Ytabngdbjlgjfaaa.B
open Go.RowKit Go.Proofs.Ytabngdbjlgjfaaa.M Go.Proofs.YtabngdbjlgjfaaaW.PrintWords Go.Proofs.YtabngdbjlgjfaaaW.PrintLast Go.Proofs.YtabngdbjlgjfaaaW.PrintMore
attribute [local irreducible] Go.bits shl shr sd
def can (P : List Nat) (s o e : Nat) : Nat := if tog P s e = s then o else o ||| 2 ^ e
theorem can_lt {P : List Nat} {s o e : Nat} (ho : o < 2 ^ P.length) (he : e < P.length) : can P s o e < 2 ^ P.length := by
  unfold can
  split
  · exact ho
  · exact Nat.or_lt_two_pow ho (Nat.pow_lt_pow_right (by decide) he)
theorem specCan {l : List Int} {P : List Nat} (hP : Good l P) {s : Nat} (hs : s < 2 ^ P.length) : ∀ (i : Nat) (st : Nat), i ≤ P.length → st < 2 ^ P.length → Ev (fun k => spec_CanToggle.l0 k (s : Int) (st : Int) (l.length : Int) (i : Int) l) (((foldFrom (can P s) i P.length st : Nat) : Int), true) := by
  have hn := hP.n10
  have hl := hP.length
  refine ev_down (fun k (st : Nat) i => spec_CanToggle.l0 k (s : Int) (st : Int) (l.length : Int) i l) (fun i st => (((foldFrom (can P s) i P.length st : Nat) : Int), true)) P.length (fun _ st => st < 2 ^ P.length) ?_ ?_
  · intro st _
    rw [foldFrom_end]
    exact ev_step (Ev.now _) (fun k => by simp only [spec_CanToggle.l0]; rw [if_neg (by omega)])
  · intro i st hi hst ih
    have c1 : (i : Int) < (l.length : Int) := by omega
    have hw : wrap64 ((i : Int) + 1) = (i : Int) + 1 := wrap64_id (by omega) (by omega)
    have h2 : 2 ^ i < 2 ^ P.length := Nat.pow_lt_pow_right (by decide) hi
    have ho := or_nat (p63 hst (by omega)) (p63 h2 (by omega))
    have hsh := shl_one (i := i) (by omega)
    rw [foldFrom_step _ hi]
    have ih' := ih _ (can_lt (s := s) hst hi)
    refine ev_stepb (tgAt_ev hP hs hi) (ev_as ih' (fun k => ?_)) (fun k => by simp only [spec_CanToggle.l0]; rw [if_pos c1])
    unfold can
    by_cases ht : tog P s i = s
    · rw [if_pos ht, if_pos (by omega), hw]
    · rw [if_neg ht, if_neg (by omega), if_pos (by omega), hsh, ho, hw]
theorem implCan {l : List Int} {P : List Nat} (hP : Good l P) {s : Nat} (hs : s < 2 ^ P.length) : ∀ (i : Nat) (st : Nat), i ≤ P.length → st < 2 ^ P.length → Ev (fun k => impl_CanToggle.l0 k (s : Int) (st : Int) (l.length : Int) (i : Int) l) (((foldFrom (can P s) i P.length st : Nat) : Int), true) := by
  have hn := hP.n10
  have hl := hP.length
  refine ev_down (fun k (st : Nat) i => impl_CanToggle.l0 k (s : Int) (st : Int) (l.length : Int) i l) (fun i st => (((foldFrom (can P s) i P.length st : Nat) : Int), true)) P.length (fun _ st => st < 2 ^ P.length) ?_ ?_
  · intro st _
    rw [foldFrom_end]
    exact ev_step (Ev.now _) (fun k => by simp only [impl_CanToggle.l0]; rw [if_neg (by omega)])
  · intro i st hi hst ih
    have c1 : (i : Int) < (l.length : Int) := by omega
    have hw : wrap64 ((i : Int) + 1) = (i : Int) + 1 := wrap64_id (by omega) (by omega)
    have h2 : 2 ^ i < 2 ^ P.length := Nat.pow_lt_pow_right (by decide) hi
    have ho := or_nat (p63 hst (by omega)) (p63 h2 (by omega))
    have hsh := shl_one (i := i) (by omega)
    rw [foldFrom_step _ hi]
    have ih' := ih _ (can_lt (s := s) hst hi)
    refine ev_stepb (toggle_ev hP hs hi) (ev_as ih' (fun k => ?_)) (fun k => by simp only [impl_CanToggle.l0]; rw [if_pos c1])
    unfold can
    by_cases ht : tog P s i = s
    · rw [if_pos ht, if_pos (by omega), hw]
    · rw [if_neg ht, if_neg (by omega), if_pos (by omega), hsh, ho, hw]
theorem both_CanToggle (l : List Int) (a : Int) : ∃ r, Ev (fun k => spec_CanToggle.f k l a) r ∧ Ev (fun k => impl_CanToggle.f k l a) r := by
  unfold spec_CanToggle.f impl_CanToggle.f impl_Poset_n.f
  cases hg : inB l a with
  | false => exact ⟨(0, false), Ev.bind (hg ▸ tgIn_ev l a) (ev_as (Ev.now _) (fun k => by rw [if_neg (by decide)])), Ev.bind (hg ▸ isIdeal_ev l a) (ev_as (Ev.now _) (fun k => by rw [if_neg (by decide)]))⟩
  | true =>
    obtain ⟨P, s, hP, rfl, hs, hi⟩ := in_nat hg
    refine ⟨(((foldFrom (can P s) 0 P.length 0 : Nat) : Int), true), Ev.bind (hg ▸ tgIn_ev l _) (ev_as (specCan hP hs 0 0 (by omega) (Nat.two_pow_pos _)) (fun k => by rw [if_pos rfl]; rfl)), Ev.bind (hg ▸ isIdeal_ev l _) (ev_as (implCan hP hs 0 0 (by omega) (Nat.two_pow_pos _)) (fun k => by rw [if_pos rfl, Option.bind_some]; rfl))⟩

theorem tail_CanToggle (l : List Int) (h : l.length ≤ 1048576) : Ev (fun k => laws_FnExactCanToggle.j0 k false l l) true := by
  refine ev_step (f := fun k => (laws_toPoset.f k l).bind fun t => (laws_eqPoset.f k l t).bind fun u => if u = true then some true else some false) ?_ (fun k => by simp only [laws_FnExactCanToggle.j0]; rw [if_neg (by decide)])
  refine Ev.bind (toPoset_ev l (by omega)) ?_
  exact Ev.bind (eqPoset_ev l (by omega)) (Ev.now _)
theorem FnExactCanToggle (l : List Int) (a : Int) (hm : l.length ≤ 9223372036854775807) (_ : ∀ x ∈ l, (Lit.int .i64 x).wf = true) (_ : (Lit.int .i64 a).wf = true) : ∃ k, laws_FnExactCanToggle.f k l a = some true := by
  apply Ev.rounds
  unfold laws_FnExactCanToggle.f
  refine sz_bind l hm _ true true (fun h => ?_) (fun _ => rfl)
  obtain ⟨r, h1, h2⟩ := both_CanToggle l a
  refine Ev.bind (toPoset_ev l (by omega)) ?_
  refine Ev.bind h1 ?_
  refine Ev.bind (toPoset_ev l (by omega)) ?_
  refine Ev.bind h2 ?_
  exact ev_as (tail_CanToggle l h) (fun k => by first | (rw [if_pos rfl, bne_self_eq_false]) | (rw [bne_self_eq_false, bne_self_eq_false, if_neg (by decide)]))
end Go.Proofs.Ytabngdbjlgjfaaa.B
