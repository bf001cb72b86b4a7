/- Ways to fill up ideals, as the program tells them. -/
import Derived.Test.YtdfgfeobaldmpaaMways
import Derived.Test.YtdfgfeobaldmpaaS
import Derived.Test.YtdfgfeobaldmpaaSclose
import Derived.Test.YtdfgfeobaldmpaaB5
namespace Go.Proofs.Ytdfgfeobaldmpaa.B
open Go.RowKit Go.Proofs.Ytdfgfeobaldmpaa.M Go.Proofs.YtdfgfeobaldmpaaW.PrintWords Go.Proofs.YtdfgfeobaldmpaaW.PrintLast Go.Proofs.YtdfgfeobaldmpaaW.PrintMore
attribute [local irreducible] Go.bits shl shr sd
def wstepI (P : List Nat) (s : Nat) (o : List Int) (i : Nat) : List Int := if sd (P.getD i 0) s = 0 then o.set s (wrap64 (o.getD s 0 + o.getD (s ||| 2 ^ i) 0)) else o
theorem wrow_items {P : List Nat} (hn : P.length ≤ 10) (s : Nat) (o : List Int) : (items (sd (2 ^ P.length - 1) s)).foldl (wstepI P s) o = wrow P s o := by
  have h1 := Nat.one_le_two_pow (n := P.length)
  rw [fold_items _ (sd_lt (show 2 ^ P.length - 1 < 2 ^ P.length by omega)) hn]
  unfold wrow
  refine foldFrom_rel _ _ (fun a b => a = b) P.length ?_ 0 _ _ (by omega) rfl
  rintro i a _ hi rfl
  unfold wstep wcan wstepI
  rw [sd_bit, Nat.testBit_two_pow_sub_one, decide_eq_true hi, Bool.true_and]
  cases s.testBit i with
  | true => rfl
  | false =>
    by_cases h0 : sd (P.getD i 0) s = 0
    · rw [if_pos h0, decide_eq_true h0]; rfl
    · rw [if_neg h0, decide_eq_false h0]; rfl
theorem ways_l1 {l : List Int} {P : List Nat} (hP : Good l P) {s : Nat} (hs : s < 2 ^ P.length) (fin : List Int → List Int) (hnext : ∀ o, o.length = 2 ^ P.length → Ev (fun k => impl_Poset_ways.l0 k o ((s : Int) - 1) l) (fin o)) :
    ∀ (e : Nat) (o : List Int), e ≤ (items (sd (2 ^ P.length - 1) s)).length → o.length = 2 ^ P.length → Ev (fun k => impl_Poset_ways.l1 k o (s : Int) (cast (items (sd (2 ^ P.length - 1) s))) ((cast (items (sd (2 ^ P.length - 1) s))).length : Int) (e : Int) l) (fin (((items (sd (2 ^ P.length - 1) s)).drop e).foldl (wstepI P s) o)) := by
  have hn := hP.n10
  have hl := hP.length
  have h24 : 2 ^ P.length ≤ 1024 := two_pow_le (j := 10) hn
  have h1 := Nat.one_le_two_pow (n := P.length)
  have hall : sd (2 ^ P.length - 1) s < 2 ^ P.length := sd_lt (by omega)
  revert hall
  generalize sd (2 ^ P.length - 1) s = z
  intro hall
  have hlen : (items z).length ≤ 10 := by unfold items; exact Nat.le_trans (List.length_filter_le _ _) (by simp)
  refine ev_down (fun k (o : List Int) e => impl_Poset_ways.l1 k o (s : Int) (cast (items z)) ((cast (items z)).length : Int) e l) (fun e o => fin (((items z).drop e).foldl (wstepI P s) o)) (items z).length (fun _ o => o.length = 2 ^ P.length) ?_ ?_
  · intro o ho
    rw [List.drop_length, List.foldl_nil]
    have hw : wrap64 ((s : Int) - 1) = (s : Int) - 1 := wrap64_id (by omega) (by omega)
    exact ev_step (hnext o ho) (fun k => by simp only [impl_Poset_ways.l1]; rw [if_neg (by rw [cast_length]; omega), hw])
  · intro e o he ho ih
    obtain ⟨i, hi⟩ : ∃ i, (items z).getD e 0 = i := ⟨_, rfl⟩
    have hmem : i ∈ items z := by rw [← hi]; exact getD_memN he
    have hin : i < P.length := bit_lt hall (mem_items.1 hmem).2
    have c1 : (e : Int) < ((cast (items z)).length : Int) := by rw [cast_length]; omega
    have c2 : 0 ≤ (e : Int) := by omega
    have c7 : 0 ≤ (i : Int) := by omega
    have c8 : (i : Int) < (l.length : Int) := by omega
    have hw : wrap64 ((e : Int) + 1) = (e : Int) + 1 := wrap64_id (by omega) (by omega)
    have hri : rd (cast (items z)) (e : Int) = (i : Int) := by rw [← hi]; exact rd_cast _ _
    have hr : rd l (i : Int) = ((P.getD i 0 : Nat) : Int) := by rw [hP.eq]; exact rd_cast P i
    have ha := andNot_nat (hP.lt63 i) (p63 hs (by omega))
    have h2 : 2 ^ i < 2 ^ P.length := Nat.pow_lt_pow_right (by decide) hin
    have hor : Go.bits .or .i64 (s : Int) (shl .i64 1 (i : Int)) = ((s ||| 2 ^ i : Nat) : Int) := by rw [shl_one (by omega), or_nat (p63 hs (by omega)) (p63 h2 (by omega))]
    have hlt := Nat.or_lt_two_pow hs h2
    have c3 : 0 ≤ (s : Int) := by omega
    have c4 : (s : Int) < (o.length : Int) := by omega
    have c5 : 0 ≤ ((s ||| 2 ^ i : Nat) : Int) := by omega
    have c6 : ((s ||| 2 ^ i : Nat) : Int) < (o.length : Int) := by omega
    rw [drop_step (items z) 0 he, hi, List.foldl_cons]
    unfold wstepI
    by_cases h0 : sd (P.getD i 0) s = 0
    · rw [if_pos h0]
      exact ev_step (ih (o.set s (wrap64 (o.getD s 0 + o.getD (s ||| 2 ^ i) 0))) (by rw [List.length_set]; exact ho)) (fun k => by simp only [impl_Poset_ways.l1]; rw [if_pos c1, if_pos c2, if_pos c1, hri, if_pos c7, if_pos c8, hr, ha, if_pos (sd_zero_nat.2 h0), hor, if_pos c3, if_pos c4, if_pos c5, if_pos c6, rd_nat, rd_nat, Int.toNat_natCast, hw])
    · rw [if_neg h0]
      exact ev_step (ih o ho) (fun k => by simp only [impl_Poset_ways.l1]; rw [if_pos c1, if_pos c2, if_pos c1, hri, if_pos c7, if_pos c8, hr, ha, if_neg (fun h => h0 (sd_zero_nat.1 h)), hw])
theorem ways_l0 {l : List Int} {P : List Nat} (hP : Good l P) : ∀ (c : Nat) (o : List Int), c ≤ 2 ^ P.length → o.length = 2 ^ P.length → Ev (fun k => impl_Poset_ways.l0 k o ((c : Int) - 1) l) (wdown (wrow' P) c o) := by
  have hn := hP.n10
  have hl := hP.length
  have hl' : l.length = P.length := by omega
  have h24 : 2 ^ P.length ≤ 1024 := two_pow_le (j := 10) hn
  have h1 := Nat.one_le_two_pow (n := P.length)
  intro c
  induction c with
  | zero => intro o _ _; exact ev_step (Ev.now _) (fun k => by simp only [impl_Poset_ways.l0]; rw [if_neg (by omega)]; rfl)
  | succ s ih =>
    intro o hc ho
    have hs : s < 2 ^ P.length := by omega
    have hcs : (((s + 1 : Nat) : Int) - 1) = (s : Int) := by omega
    have hw : wrap64 ((s : Int) - 1) = (s : Int) - 1 := wrap64_id (by omega) (by omega)
    rw [hcs]
    refine ev_stepb (close_ev hP hs) ?_ (fun k => by simp only [impl_Poset_ways.l0]; rw [if_pos (by omega)])
    show Ev _ (wdown (wrow' P) s (wrow' P s o))
    unfold wrow'
    by_cases hi : dn P s = s
    · rw [idl_dn, decide_eq_true hi, if_pos rfl]
      have han := andNot_nat (a := 2 ^ P.length - 1) (b := s) (p63 (show 2 ^ P.length - 1 < 2 ^ P.length by omega) (by omega)) (p63 hs (by omega))
      refine ev_bind (items_ev (p63 (sd_lt (b := s) (show 2 ^ P.length - 1 < 2 ^ P.length by omega)) (by omega))) ?_ (fun k => by rw [if_pos (by omega), all_is l (by omega), Option.bind_some, hl', han])
      rw [← wrow_items hn]
      have := ways_l1 hP hs (fun o => wdown (wrow' P) s o) (fun o ho => ih o (by omega) ho) 0 o (by omega) ho
      rw [List.drop_zero] at this
      exact this
    · rw [idl_dn, decide_eq_false hi, if_neg (by decide)]
      exact ev_as (ih o (by omega) ho) (fun k => by rw [if_neg (by omega), hw])
theorem ways_ev {l : List Int} {P : List Nat} (hP : Good l P) : Ev (fun k => impl_Poset_ways.f k l) (wdown (wrow' P) (2 ^ P.length - 1) (wstart P)) := by
  have hn := hP.n10
  have hl := hP.length
  have hl' : l.length = P.length := by omega
  have h24 : 2 ^ P.length ≤ 1024 := two_pow_le (j := 10) hn
  have h1 := Nat.one_le_two_pow (n := P.length)
  have hw1 : wrap64 (((2 ^ P.length - 1 : Nat) : Int) + 1) = ((2 ^ P.length : Nat) : Int) := by rw [wrap64_id (by omega) (by omega)]; omega
  have hw2 : wrap64 (((2 ^ P.length - 1 : Nat) : Int) - 1) = ((2 ^ P.length - 1 : Nat) : Int) - 1 := by rw [wrap64_id (by omega) (by omega)]
  have := ways_l0 hP (2 ^ P.length - 1) (wstart P) (by omega) (wstart_length P)
  unfold impl_Poset_ways.f
  refine ev_as this (fun k => ?_)
  rw [all_is l (by omega), Option.bind_some, hl', hw1, if_pos (by omega), Int.toNat_natCast, if_pos (by omega), Option.bind_some, Option.bind_some, if_pos (by omega), List.length_replicate, if_pos (by omega), Option.bind_some, hw2, Int.toNat_natCast]
  rfl
theorem wrow'_length (P : List Nat) (s : Nat) (o : List Int) : (wrow' P s o).length = o.length := by
  unfold wrow'
  split
  · exact wrow_length P s o
  · rfl
end Go.Proofs.Ytdfgfeobaldmpaa.B
