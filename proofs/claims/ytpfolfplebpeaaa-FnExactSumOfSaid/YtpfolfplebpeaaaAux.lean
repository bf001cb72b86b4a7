/- How a poset that came in by value is opened: its one field is a slice of whole numbers. -/
import Derived.Test.YtpfolfplebpeaaaRows
import Derived.Test.YtpfolfplebpeaaaWWords
import Derived.Test.YtpfolfplebpeaaaWSized
import Derived.WalkKit
import Derived.ProofKit
import Derived.OpenShut
import Derived.ShutString
import Derived.ChangeOld
import Derived.Below
import Derived.SizedLaws
import Derived.Deep.Matrix
import Derived.Lib.SmallJoins
namespace Go.Proofs.Ytpfolfplebpeaaa.Aux
open Go.ChangeShapes Go.WideShapes Go.ChangeAt Go.RowKit Go.Deep
open Go.Proofs.YtpfolfplebpeaaaW.PrintWords
theorem own : ownKnob Try.prog.godebug = none := by kernel_rfl
theorem laidOut : laidOutB Try.prog = true := by kernel_rfl
def IsRow (k : IntKind) (w : World) (a : Option Addr) (len cap : Nat) (zs : List Int) : Prop :=
  (a = none ∧ len = 0 ∧ cap = 0 ∧ zs = []) ∨
  ∃ x, a = some x ∧ len ≤ cap ∧ cap ≤ maxLen ∧ zs.length = cap ∧ (∀ i, i < zs.length → w.cell? (x.add i) = some (.int k (zs.getD i 0))) ∧ ∀ n ∈ zs, (Lit.int k n).wf = true
/-- What a slice of whole numbers is good for: a list, no longer than its row. -/
def IsList (k : IntKind) (w : World) (A : Option Addr) (cap : Nat) (l : List Int) : Prop :=
  Kd.C (Kd.int k) w A l.length l ∧ l.length ≤ cap ∧ l.length ≤ 9223372036854775807 ∧ ∀ x ∈ l, (Lit.int k x).wf = true
section
variable {H : Type} {enc : TypeId × Value → H} {P : Program} {W : World}
theorem slice_row {t e : TypeId} {k : IntKind} {fuel : Nat} {a : Option Addr} {len cap : Nat} {y : DataW H × List MemPlace} (hu : P.underlying t = some (.slice e)) (he : P.underlying e = some (.int k)) (hc : P.cellsOf e = 1)
    (hf : DataW.trod enc P W 0 (fun _ => true) true fuel t [.slice a len cap] = some y) : ∃ zs, IsRow k W a len cap zs := by
  obtain ⟨y0, y1⟩ := y
  rcases open_ints hu he hc hf with ⟨hcs, _⟩ | ⟨x, l, c, zs, hcs, _, hl, hm, hz, _, hcell, hwz⟩
  · simp at hcs
    obtain ⟨rfl, rfl, rfl⟩ := hcs
    exact ⟨[], .inl ⟨rfl, rfl, rfl, rfl⟩⟩
  · simp at hcs
    obtain ⟨rfl, rfl, rfl⟩ := hcs
    exact ⟨zs, .inr ⟨_, rfl, hl, hm, by simpa using hz, hcell, hwz⟩⟩
theorem row_list {k : IntKind} {a : Option Addr} {len cap : Nat} {zs : List Int} (h : IsRow k W a len cap zs) : ∃ l : List Int, len = l.length ∧ IsList k W a cap l := by
  obtain ⟨l, rfl, hr, hm, hw, hc⟩ := ReadsInt.ofRowC h
  exact ⟨l, rfl, Kd.C_of_reads (d := (0 : Int)) (h1 := fun _ => rfl) hr, hc, by unfold maxLen at hm; omega, hw⟩
/-- A slice of whole numbers that came in. -/
theorem open_list {t e : TypeId} {k : IntKind} {r : Reach} {b0 : Nat} {v : Value} {d : DataW H} {p : List MemPlace} (hu : P.underlying t = some (.slice e)) (he : P.underlying e = some (.int k)) (hc : P.cellsOf e = 1)
    (hv : Value.okWide P W r b0 t v) (h : DataW.Trod enc P W 0 (fun _ => true) true t v d p) : ∃ (A : Option Addr) (l : List Int) (cap : Nat), v = .slice A l.length cap ∧ IsList k W A cap l := by
  obtain ⟨a, len, cap, rfl⟩ := okWide_slice hu hv
  obtain ⟨fuel, hf⟩ := h
  obtain ⟨zs, hz⟩ := slice_row hu he hc (by simpa [Value.cells] using hf)
  obtain ⟨l, rfl, hl⟩ := row_list hz
  exact ⟨a, l, cap, rfl, hl⟩
/-- A slice of slices of whole numbers that came in. -/
theorem open_rows {t e q : TypeId} {k : IntKind} {r : Reach} {b0 : Nat} {v : Value} {d : DataW H} {p : List MemPlace} (hu : P.underlying t = some (.slice e)) (he : P.underlying e = some (.slice q)) (hq : P.underlying q = some (.int k)) (ce : P.cellsOf e = 1) (cq : P.cellsOf q = 1)
    (hv : Value.okWide P W r b0 t v) (h : DataW.Trod enc P W 0 (fun _ => true) true t v d p) : ∃ (A : Option Addr) (l : List (List Int)) (cap : Nat), v = .slice A l.length cap ∧ Kd.C (Kd.slice q (Kd.int k)) W A l.length l ∧ l.length ≤ cap ∧ l.length ≤ 9223372036854775807 ∧ ∀ o ∈ l, o.length ≤ 9223372036854775807 := by
  obtain ⟨a, len, cap, rfl⟩ := okWide_slice hu hv
  obtain ⟨fuel, hf⟩ := h
  rcases open_int_rows hu he hq ce cq (by simpa [Value.cells] using hf) with ⟨hcs, _⟩ | ⟨ad, len', cap', A, L, C, Z, hcs, _, hl, hm, _, hr⟩
  · simp at hcs
    obtain ⟨rfl, rfl, rfl⟩ := hcs
    exact ⟨none, [], 0, rfl, ⟨rfl, by simp, fun h => absurd h (by simp)⟩, by simp, by simp, by simp⟩
  · simp at hcs
    obtain ⟨rfl, rfl, rfl⟩ := hcs
    have each : ∀ r, r < len → ∃ lr : List Int, L r = lr.length ∧ IsList k W (A r) (C r) lr := fun r hrl => by
      obtain ⟨h1, h2, h3, h4, h5, h6, h7⟩ := hr r (by omega)
      refine row_list (zs := Z r) ?_
      cases hA : A r with
      | none =>
        have h0 := h6 hA
        exact .inl ⟨rfl, by omega, h0, List.length_eq_zero_iff.1 (by omega)⟩
      | some x => exact .inr ⟨x, rfl, h2, h3, h4, fun i hi => (h7 x hA).2 i (by omega), h5⟩
    obtain ⟨y, hy⟩ := choose_lt each
    have hlen : ((List.range len).map y).length = len := by rw [List.length_map, List.length_range]
    have hb : len ≤ 9223372036854775807 := by unfold maxLen at hm; omega
    refine ⟨some ad, (List.range len).map y, cap, by rw [hlen], ?_, by rw [hlen]; exact hl, by rw [hlen]; exact hb, fun o ho => ?_⟩
    · rw [hlen]
      refine ⟨hlen, hb, fun _ => ⟨ad, rfl, fun j o ho => ?_⟩⟩
      rw [List.getElem?_map] at ho
      obtain ⟨j', hj', rfl⟩ := Option.map_eq_some_iff.1 ho
      obtain ⟨hjl, hje⟩ := List.getElem?_eq_some_iff.1 hj'
      rw [List.getElem_range] at hje
      subst hje
      rw [List.length_range] at hjl
      obtain ⟨e1, hk, hc, _⟩ := hy j hjl
      have hcell := (hr j (by omega)).1
      refine ⟨[.slice (A j) (L j) (C j)], rfl, ⟨A j, C j, by rw [e1], hc, hk⟩, fun i u hu2 => ?_⟩
      have hi0 : i = 0 := by have := (List.getElem?_eq_some_iff.1 hu2).1; simp at this; exact this
      subst hi0
      simp only [List.getElem?_cons_zero, Option.some.injEq] at hu2
      subst hu2
      rw [show j * (Kd.slice q (Kd.int k)).sz + 0 = j from by show j * 1 + 0 = j; omega]
      exact hcell
    · rw [List.mem_map] at ho
      obtain ⟨j, hj, rfl⟩ := ho
      rw [List.mem_range] at hj
      exact (hy j hj).2.2.2.1
theorem array1 {α : Type} {cs : Array α} (h : cs.size = 1) : ∃ c0, cs = #[c0] := by
  obtain ⟨l⟩ := cs
  match l, h with
  | [c0], _ => exact ⟨c0, rfl⟩
/-- A poset that came in. -/
theorem open_poset {t e : TypeId} {f0 : Field} {k : IntKind} {r : Reach} {b0 : Nat} {v : Value} {d : DataW H} {p : List MemPlace} (hs : P.underlying t = some (.struct #[f0])) (hone : oneCellFields P #[f0] = true) (hC : P.cellsOf t = 1)
    (hu : P.underlying f0.type = some (.slice e)) (he : P.underlying e = some (.int k)) (hc : P.cellsOf e = 1)
    (hv : Value.okWide P W r b0 t v) (h : DataW.Trod enc P W 0 (fun _ => true) true t v d p) : ∃ (A : Option Addr) (l : List Int) (cap : Nat), v = .agg #[.slice A l.length cap] ∧ IsList k W A cap l := by
  obtain ⟨cs, rfl, hsz⟩ := okWide_struct hs hv
  obtain ⟨c0, rfl⟩ := array1 (hsz.trans hC)
  obtain ⟨fuel, hf⟩ := h
  obtain ⟨y0, n, hx, _, h0⟩ := trod_struct1 hs hf
  obtain ⟨o0, k0⟩ := hone_of hone 0 f0 rfl
  have h1 : DataW.trod enc P W 0 (fun _ => true) true n f0.type [c0] = some y0 := by simpa [Value.cells, o0, k0] using h0
  obtain ⟨a, len, cap, hcs⟩ := Go.Joins.slice_form hu h1
  obtain rfl : c0 = .slice a len cap := by simpa using hcs
  obtain ⟨zs, hz⟩ := slice_row hu he hc h1
  obtain ⟨l, rfl, hl⟩ := row_list hz
  exact ⟨a, l, cap, rfl, hl⟩
theorem places_lt {t : TypeId} {v : Value} {d : DataW H} {p : List MemPlace} (h : DataW.Trod enc P W 0 (fun _ => true) true t v d p) : ∀ x ∈ p, x.block < W.heap.size := by
  obtain ⟨m, hm⟩ := h
  exact DataW.trod_lt m _ _ _ hm
end
end Go.Proofs.Ytpfolfplebpeaaa.Aux
