/- How many orders there are, as the reference counts. -/
import Derived.Test.YtdfgfeobaldmpaaMpath
import Derived.Test.YtdfgfeobaldmpaaS
import Derived.Test.YtdfgfeobaldmpaaB10
namespace Go.Proofs.Ytdfgfeobaldmpaa.B
open Go.RowKit Go.Proofs.Ytdfgfeobaldmpaa.M Go.Proofs.YtdfgfeobaldmpaaW.PrintWords Go.Proofs.YtdfgfeobaldmpaaW.PrintLast Go.Proofs.YtdfgfeobaldmpaaW.PrintMore
attribute [local irreducible] Go.bits shl shr sd
theorem tgOrders_l1 {l : List Int} {P : List Nat} (hP : Good l P) {s : Nat} (hs : s < 2 ^ P.length) (x : Int) (fin : List Int → Int) (hnext : ∀ o, o.length = 2 ^ P.length → Ev (fun k => spec_tgOrders.l0 k o ((2 ^ P.length : Nat) : Int) ((s : Int) + 1) l) (fin o)) :
    ∀ (i : Nat) (o : List Int), i ≤ P.length → o.length = 2 ^ P.length → Ev (fun k => spec_tgOrders.l1 k o (s : Int) x ((2 ^ P.length : Nat) : Int) (s : Int) l (l.length : Int) (i : Int) l) (fin (foldFrom (gstep P s x) i P.length o)) := by
  have hn := hP.n10
  have hl := hP.length
  have h24 : 2 ^ P.length ≤ 1024 := two_pow_le (j := 10) hn
  refine ev_down (fun k (o : List Int) i => spec_tgOrders.l1 k o (s : Int) x ((2 ^ P.length : Nat) : Int) (s : Int) l (l.length : Int) i l) (fun i o => fin (foldFrom (gstep P s x) i P.length o)) P.length (fun _ o => o.length = 2 ^ P.length) ?_ ?_
  · intro o ho
    rw [foldFrom_end]
    have hw : wrap64 ((s : Int) + 1) = (s : Int) + 1 := wrap64_id (by omega) (by omega)
    exact ev_step (hnext o ho) (fun k => by simp only [spec_tgOrders.l1]; rw [if_neg (by omega), hw])
  · intro i o hi ho ih
    have c1 : (i : Int) < (l.length : Int) := by omega
    have c2 : 0 ≤ (i : Int) := by omega
    have hw : wrap64 ((i : Int) + 1) = (i : Int) + 1 := wrap64_id (by omega) (by omega)
    have hb := poIn_is (s := s) (e := i) (by omega)
    have hr : rd l (i : Int) = ((P.getD i 0 : Nat) : Int) := by rw [hP.eq]; exact rd_cast P i
    have ha := andNot_nat (hP.lt63 i) (p63 hs (by omega))
    have h2 : 2 ^ i < 2 ^ P.length := Nat.pow_lt_pow_right (by decide) hi
    have hor : Go.bits .or .i64 (s : Int) (shl .i64 1 (i : Int)) = ((s ||| 2 ^ i : Nat) : Int) := by rw [shl_one (by omega), or_nat (p63 hs (by omega)) (p63 h2 (by omega))]
    have hlt := Nat.or_lt_two_pow hs h2
    rw [foldFrom_step _ hi]
    unfold gstep wcan
    cases hbit : s.testBit i with
    | true => exact ev_step (ih o ho) (fun k => by simp only [spec_tgOrders.l1]; rw [if_pos c1, if_pos c2, if_pos c1, hb, hbit, Option.bind_some, if_pos rfl, hw])
    | false =>
      by_cases h0 : sd (P.getD i 0) s = 0
      · rw [decide_eq_true h0, Bool.not_false, Bool.true_and, if_pos rfl]
        have c5 : 0 ≤ ((s ||| 2 ^ i : Nat) : Int) := by omega
        have c6 : ((s ||| 2 ^ i : Nat) : Int) < (o.length : Int) := by omega
        exact ev_step (ih (o.set (s ||| 2 ^ i) (wrap64 (o.getD (s ||| 2 ^ i) 0 + x))) (by rw [List.length_set]; exact ho)) (fun k => by simp only [spec_tgOrders.l1]; rw [if_pos c1, if_pos c2, if_pos c1, hb, hbit, Option.bind_some, if_neg (by decide), hr, ha, if_pos (sd_zero_nat.2 h0), hor, if_pos c5, if_pos c6, rd_nat, Int.toNat_natCast, hw])
      · rw [decide_eq_false h0, Bool.and_false, if_neg (by decide)]
        exact ev_step (ih o ho) (fun k => by simp only [spec_tgOrders.l1]; rw [if_pos c1, if_pos c2, if_pos c1, hb, hbit, Option.bind_some, if_neg (by decide), hr, ha, if_neg (fun h => h0 (sd_zero_nat.1 h)), hw])
theorem tgOrders_ev {l : List Int} {P : List Nat} (hP : Good l P) : Ev (fun k => spec_tgOrders.f k l) ((cnts P).getD 0 0) := by
  have hn := hP.n10
  have hl := hP.length
  have h24 : 2 ^ P.length ≤ 1024 := two_pow_le (j := 10) hn
  have h1 := Nat.one_le_two_pow (n := P.length)
  have hs1 : shl .i64 1 (l.length : Int) = ((2 ^ P.length : Nat) : Int) := by rw [hl]; exact shl_one (by omega)
  have H : ∀ (s : Nat) (o : List Int), s ≤ 2 ^ P.length → o.length = 2 ^ P.length → Ev (fun k => spec_tgOrders.l0 k o ((2 ^ P.length : Nat) : Int) (s : Int) l) ((foldFrom (gall P) s (2 ^ P.length) o).getD (2 ^ P.length - 1) 0) := by
    refine ev_down (fun k (o : List Int) s => spec_tgOrders.l0 k o ((2 ^ P.length : Nat) : Int) s l) (fun s o => (foldFrom (gall P) s (2 ^ P.length) o).getD (2 ^ P.length - 1) 0) (2 ^ P.length) (fun _ o => o.length = 2 ^ P.length) ?_ ?_
    · intro o ho
      have hw : wrap64 ((o.length : Int) - 1) = ((2 ^ P.length - 1 : Nat) : Int) := by rw [wrap64_id (by omega) (by omega)]; omega
      rw [foldFrom_end]
      exact ev_step (Ev.now _) (fun k => by simp only [spec_tgOrders.l0]; rw [if_neg (by omega), hw, if_pos (by omega), if_pos (by omega), rd_nat])
    · intro s o hs ho ih
      have c1 : (s : Int) < ((2 ^ P.length : Nat) : Int) := by omega
      have c2 : 0 ≤ (s : Int) := by omega
      have c3 : (s : Int) < (o.length : Int) := by omega
      have hw : wrap64 ((s : Int) + 1) = (s : Int) + 1 := wrap64_id (by omega) (by omega)
      rw [foldFrom_step _ hs]
      unfold gall
      by_cases h0 : o.getD s 0 = 0
      · rw [if_pos h0]
        have := ih o ho
        unfold gall at this
        exact ev_step this (fun k => by simp only [spec_tgOrders.l0]; rw [if_pos c1, if_pos c2, if_pos c3, rd_nat, if_pos h0, hw])
      · rw [if_neg h0]
        have := tgOrders_l1 hP hs (o.getD s 0) (fun o => (foldFrom (gall P) (s + 1) (2 ^ P.length) o).getD (2 ^ P.length - 1) 0) (fun o ho => ih o ho) 0 o (by omega) ho
        exact ev_step this (fun k => by simp only [spec_tgOrders.l0]; rw [if_pos c1, if_pos c2, if_pos c3, rd_nat, if_neg h0]; rfl)
  have h0 := H 0 (gstart P) (by omega) (gstart_length P)
  rw [(gall_end P).2] at h0
  unfold spec_tgOrders.f
  refine ev_as h0 (fun k => ?_)
  rw [hs1, if_pos (by omega), Int.toNat_natCast, if_pos (by omega), Option.bind_some, List.length_replicate, if_pos (by omega)]
  rfl
end Go.Proofs.Ytdfgfeobaldmpaa.B
