/- Orbits of rowmotion, as the reference tells them. -/
import Derived.Test.YtcijgnfidipmaaaMorb
import Derived.Test.YtcijgnfidipmaaaSrow
import Derived.Test.YtcijgnfidipmaaaB4
namespace Go.Proofs.Ytcijgnfidipmaaa.B
open Go.RowKit Go.Proofs.Ytcijgnfidipmaaa.M Go.Proofs.YtcijgnfidipmaaaW.PrintWords Go.Proofs.YtcijgnfidipmaaaW.PrintLast Go.Proofs.YtcijgnfidipmaaaW.PrintMore
attribute [local irreducible] Go.bits shl shr sd
def isId (P : List Nat) (s : Nat) : Prop := s < 2 ^ P.length ∧ idl P s = true
theorem row_motion {l : List Int} {P : List Nat} (hP : Good l P) : Motion (rw_ P) (2 ^ P.length) (isId P) :=
  ⟨fun _ h => h.1, fun s _ => ⟨rw_lt hP s, rw_idl hP s⟩, fun s t hs ht h => by rw [← bk_rw hP hs.1 hs.2, h, bk_rw hP ht.1 ht.2]⟩
theorem obOrbit_ev {l : List Int} {P : List Nat} (hP : Good l P) {s : Nat} (hs : isId P s) : Ev (fun k => spec_obOrbit.f k l (s : Int)) (cast (orb (rw_ P) (2 ^ P.length) s)) := by
  have hn := hP.n10
  have h24 : 2 ^ P.length ≤ 1024 := two_pow_le (j := 10) hn
  have hm := row_motion hP
  obtain ⟨p1, p2, p3, p4⟩ := per_spec hm hs
  have H : ∀ d i, per (rw_ P) (2 ^ P.length) s - i = d → 1 ≤ i → i ≤ per (rw_ P) (2 ^ P.length) s → Ev (fun k => spec_obOrbit.l0 k (s : Int) (cast (orbTo (rw_ P) s i)) ((iter (rw_ P) i s : Nat) : Int) l) (cast (orb (rw_ P) (2 ^ P.length) s)) := by
    intro d
    induction d with
    | zero =>
      intro i hd h1 h2
      have hi : i = per (rw_ P) (2 ^ P.length) s := by omega
      subst hi
      rw [p3]
      exact ev_step (Ev.now _) (fun k => by simp only [spec_obOrbit.l0]; rw [if_pos trivial]; rfl)
    | succ d ih =>
      intro i hd h1 h2
      have hne := p4 i h1 (by omega)
      have hin := iter_in hm hs i
      have hlen : (cast (orbTo (rw_ P) s i)).length < 17592186044416 := by unfold cast; rw [List.length_map, orbTo_length]; omega
      have happ : cast (orbTo (rw_ P) s i) ++ [((iter (rw_ P) i s : Nat) : Int)] = cast (orbTo (rw_ P) s (i + 1)) := by rw [orbTo_succ]; unfold cast; rw [List.map_append]; rfl
      refine ev_stepb (tgRow_ev hP hin.1) ?_ (fun k => by simp only [spec_obOrbit.l0]; rw [if_neg (by omega), if_pos hlen, happ])
      exact ih (i + 1) (by omega) (by omega) (by omega)
  unfold spec_obOrbit.f
  refine Ev.bind (tgRow_ev hP hs.1) ?_
  exact H _ 1 rfl (by omega) p1
end Go.Proofs.Ytcijgnfidipmaaa.B
