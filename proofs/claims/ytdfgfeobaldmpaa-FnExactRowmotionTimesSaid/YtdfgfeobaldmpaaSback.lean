/- The ideal whose rowmotion an ideal is: both sides. -/
import Derived.Test.YtdfgfeobaldmpaaStop
import Derived.Test.YtdfgfeobaldmpaaStoi
import Derived.Test.YtdfgfeobaldmpaaB4
import Derived.Test.YtdfgfeobaldmpaaB7
namespace Go.Proofs.Ytdfgfeobaldmpaa.B
open Go.RowKit Go.Proofs.Ytdfgfeobaldmpaa.M Go.Proofs.YtdfgfeobaldmpaaW.PrintWords Go.Proofs.YtdfgfeobaldmpaaW.PrintLast Go.Proofs.YtdfgfeobaldmpaaW.PrintMore
attribute [local irreducible] Go.bits shl shr sd
theorem nat_zero' {x : Nat} : ((x : Nat) : Int) = 0 ↔ x = 0 := by omega
theorem tgBack_ev {l : List Int} {P : List Nat} (hP : Good l P) {s : Nat} (hs : s < 2 ^ P.length) : Ev (fun k => spec_tgBack.f k l (s : Int)) ((bk P s : Nat) : Int) := by
  have hn := hP.n10
  have hl := hP.length
  have ht := tp_lt hs
  have H : ∀ (i : Nat) (st : Nat), i ≤ P.length → st < 2 ^ P.length → Ev (fun k => spec_tgBack.l0 k ((tp P s : Nat) : Int) (st : Int) l (l.length : Int) (i : Int)) ((foldFrom (fun o i => if (tp P s).testBit i then o else (if P.getD i 0 &&& tp P s = 0 then o ||| 2 ^ i else o)) i P.length st : Nat) : Int) := by
    refine ev_down (fun k (st : Nat) i => spec_tgBack.l0 k ((tp P s : Nat) : Int) (st : Int) l (l.length : Int) i) (fun i st => ((foldFrom (fun o i => if (tp P s).testBit i then o else (if P.getD i 0 &&& tp P s = 0 then o ||| 2 ^ i else o)) i P.length st : Nat) : Int)) P.length (fun _ st => st < 2 ^ P.length) ?_ ?_
    · intro st _
      rw [foldFrom_end]
      exact ev_step (Ev.now _) (fun k => by simp only [spec_tgBack.l0]; rw [if_neg (by omega)])
    · intro i st hi hst ih
      have c1 : (i : Int) < (l.length : Int) := by omega
      have c2 : 0 ≤ (i : Int) := by omega
      have hw : wrap64 ((i : Int) + 1) = (i : Int) + 1 := wrap64_id (by omega) (by omega)
      have hb := poIn_is (s := tp P s) (e := i) (by omega)
      have h2 : 2 ^ i < 2 ^ P.length := Nat.pow_lt_pow_right (by decide) hi
      have ha := and_nat (hP.lt63 i) (p63 ht (by omega))
      have ho := or_nat (p63 hst (by omega)) (p63 h2 (by omega))
      have hsh := shl_one (i := i) (by omega)
      have hr : rd l (i : Int) = ((P.getD i 0 : Nat) : Int) := by rw [hP.eq, rd_cast]
      rw [foldFrom_step _ hi]
      cases hbit : (tp P s).testBit i with
      | true => exact ev_step (ih _ hst) (fun k => by simp only [spec_tgBack.l0]; rw [if_pos c1, if_pos c2, if_pos c1, hb, hbit, Option.bind_some, if_pos rfl, hw]; rfl)
      | false =>
        by_cases h0 : P.getD i 0 &&& tp P s = 0
        · rw [if_neg (by decide), if_pos h0]
          exact ev_step (ih _ (Nat.or_lt_two_pow hst h2)) (fun k => by simp only [spec_tgBack.l0]; rw [if_pos c1, if_pos c2, if_pos c1, hb, hbit, Option.bind_some, if_neg (by decide), hr, ha, if_pos (nat_zero'.2 h0), hsh, ho, hw])
        · rw [if_neg (by decide), if_neg h0]
          exact ev_step (ih _ hst) (fun k => by simp only [spec_tgBack.l0]; rw [if_pos c1, if_pos c2, if_pos c1, hb, hbit, Option.bind_some, if_neg (by decide), hr, ha, if_neg (fun h => h0 (nat_zero'.1 h)), hw])
  unfold spec_tgBack.f
  exact Ev.bind (poTop_ev hP hs) (H 0 0 (by omega) (Nat.two_pow_pos _))
theorem back_ev {l : List Int} {P : List Nat} (hP : Good l P) {s : Nat} (hs : s < 2 ^ P.length) (hi : idl P s = true) : Ev (fun k => impl_Poset_back.f k l (s : Int)) ((bk P s : Nat) : Int) := by
  have hn := hP.n10
  have hl := hP.length
  rw [← toggles_bk hP hs hi]
  have H : ∀ (i : Nat) (st : Nat), i ≤ P.length → st < 2 ^ P.length → Ev (fun k => impl_Poset_back.l0 k (st : Int) (l.length : Int) (i : Int) l) ((foldFrom (tog P) i P.length st : Nat) : Int) := by
    refine ev_down (fun k (st : Nat) i => impl_Poset_back.l0 k (st : Int) (l.length : Int) i l) (fun i st => ((foldFrom (tog P) i P.length st : Nat) : Int)) P.length (fun _ st => st < 2 ^ P.length) ?_ ?_
    · intro st _
      rw [foldFrom_end]
      exact ev_step (Ev.now _) (fun k => by simp only [impl_Poset_back.l0]; rw [if_neg (by omega)])
    · intro i st hi hst ih
      have c1 : (i : Int) < (l.length : Int) := by omega
      have hw : wrap64 ((i : Int) + 1) = (i : Int) + 1 := wrap64_id (by omega) (by omega)
      rw [foldFrom_step _ hi]
      exact ev_stepb (F := fun k t => impl_Poset_back.l0 k t (l.length : Int) ((i : Int) + 1) l) (toggle_ev hP hst hi) (ih _ (tog_lt hst hi)) (fun k => by simp only [impl_Poset_back.l0]; rw [if_pos c1, hw])
  unfold impl_Poset_back.f impl_Poset_n.f
  exact ev_as (H 0 s (by omega) hs) (fun k => by rw [Option.bind_some]; rfl)
end Go.Proofs.Ytdfgfeobaldmpaa.B
