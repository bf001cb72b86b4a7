/- The orbit of an ideal, as the program makes it. -/
import Derived.Test.YtcijgnfidipmaaaScyr
import Derived.Test.YtcijgnfidipmaaaB11
namespace Go.Proofs.Ytcijgnfidipmaaa.B
open Go.RowKit Go.Proofs.Ytcijgnfidipmaaa.M Go.Proofs.YtcijgnfidipmaaaW.PrintWords Go.Proofs.YtcijgnfidipmaaaW.PrintLast Go.Proofs.YtcijgnfidipmaaaW.PrintMore
attribute [local irreducible] Go.bits shl shr sd
/-- The orbit of an ideal under rowmotion. -/
def robit (P : List Nat) (s : Nat) : List Nat := orb (rw_ P) (2 ^ P.length) s
theorem robit_length {l : List Int} {P : List Nat} (hP : Good l P) {s : Nat} (hs : isId P s) : 1 ≤ (robit P s).length ∧ (robit P s).length ≤ 1024 := by
  have h24 : 2 ^ P.length ≤ 1024 := two_pow_le (j := 10) hP.n10
  have := orb_length (row_motion hP) hs
  unfold robit
  omega
theorem robit_mem {l : List Int} {P : List Nat} (hP : Good l P) {s : Nat} (hs : isId P s) : ∀ x ∈ robit P s, isId P x := fun _ hx => mem_orb (row_motion hP) hs hx
theorem orbit_ev {l : List Int} {P : List Nat} (hP : Good l P) {s : Nat} (hs : isId P s) : Ev (fun k => impl_Poset_orbit.f k l (s : Int)) (cast (robit P s)) := by
  have h1 := scyr_ev hP [s] (by simp) (fun x hx => by rw [List.mem_singleton] at hx; rw [hx]; exact hs)
  have h2 : (cyc (rw_ P) (2 ^ P.length) [] [s]).map cast = [cast (robit P s)] := by
    unfold cyc cyc robit
    rw [if_neg (by simp)]
    rfl
  rw [h2] at h1
  unfold impl_Poset_orbit.f
  refine Ev.bind h1 ?_
  exact ev_as (Ev.now _) (fun k => by rw [if_pos (by simp)]; rfl)
end Go.Proofs.Ytcijgnfidipmaaa.B
