/- A set toggled at an element, as the reference does it. -/
import Derived.Test.YtinnobjcphfejaaSidl
import Derived.Test.YtinnobjcphfejaaMrow
import Derived.Test.YtinnobjcphfejaaB20
namespace Go.Proofs.Ytinnobjcphfejaa.B
open Go.RowKit Go.Proofs.Ytinnobjcphfejaa.M Go.Proofs.YtinnobjcphfejaaW.PrintWords Go.Proofs.YtinnobjcphfejaaW.PrintLast Go.Proofs.YtinnobjcphfejaaW.PrintMore
attribute [local irreducible] Go.bits shl shr sd
theorem tgAt_ev {l : List Int} {P : List Nat} (hP : Good l P) {s e : Nat} (hs : s < 2 ^ P.length) (he : e < P.length) : Ev (fun k => spec_tgAt.f k l (s : Int) (e : Int)) ((tog P s e : Nat) : Int) := by
  have hn := hP.n10
  have h2 : 2 ^ e < 2 ^ P.length := Nat.pow_lt_pow_right (by decide) he
  have hx := Nat.xor_lt_two_pow hs h2
  have hxor : Go.bits .xor .i64 (s : Int) (shl .i64 1 (e : Int)) = ((s ^^^ 2 ^ e : Nat) : Int) := by rw [shl_one (by omega), xor_nat (p63 hs (by omega)) (p63 h2 (by omega))]
  unfold spec_tgAt.f
  refine ev_bind (poIdeal_ev hP hx) ?_ (fun k => by rw [if_pos (by omega), hxor])
  unfold tog
  cases hi : idl P (s ^^^ 2 ^ e) with
  | true => exact ev_as (Ev.now _) (fun k => by rw [if_pos rfl]; rfl)
  | false => exact ev_as (Ev.now _) (fun k => by rw [if_neg (by decide)]; rfl)
end Go.Proofs.Ytinnobjcphfejaa.B
