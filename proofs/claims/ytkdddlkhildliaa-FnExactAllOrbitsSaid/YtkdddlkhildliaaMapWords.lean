/- Maps of the kind map[int]bool that a call makes and keeps: as sets of the numbers put in, in order. Ours; nothing here is trusted. -/
import Derived.MapKept
import Derived.Maps.OwnOps
import Derived.Test.YtkdddlkhildliaaWWords
import Derived.Test.YtkdddlkhildliaaWApart
namespace Go.Proofs.Ytkdddlkhildliaa.B
open Go.RowKit Go.Proofs.YtkdddlkhildliaaW.PrintWords Go.MapKept
def mentries : List Int → Nat → List MapEntry
  | [], _ => []
  | x :: xs, i => { key := .int .i64 x, val := .bool true, born := i } :: mentries xs (i + 1)
/-- The map's block. -/
def mapObj (m : List Int) : Obj := .map (mentries m 0).toArray m.length
def mhas (m : List Int) (x : Int) : Bool := decide (x ∈ m)
def mput (m : List Int) (x : Int) : List Int := if x ∈ m then m else m ++ [x]
theorem mentries_append (x : Int) : ∀ (m : List Int) (i : Nat), mentries (m ++ [x]) i = mentries m i ++ [{ key := .int .i64 x, val := .bool true, born := i + m.length }]
  | [], i => rfl
  | y :: ys, i => by
    show _ :: mentries (ys ++ [x]) (i + 1) = _
    rw [mentries_append x ys (i + 1)]
    simp only [mentries, List.cons_append, List.length_cons]
    rw [show i + 1 + ys.length = i + (ys.length + 1) by omega]
theorem mentries_mem {e : MapEntry} : ∀ (m : List Int) (i : Nat), e ∈ mentries m i → ∃ x, x ∈ m ∧ e.key = .int .i64 x ∧ e.val = .bool true
  | [], _, h => by cases h
  | y :: ys, i, h => by
    simp only [mentries, List.mem_cons] at h
    rcases h with rfl | h
    · exact ⟨y, List.mem_cons_self, rfl, rfl⟩
    · obtain ⟨x, h1, h2⟩ := mentries_mem ys (i + 1) h
      exact ⟨x, List.mem_cons_of_mem _ h1, h2⟩
theorem mentries_has {x : Int} : ∀ (m : List Int) (i : Nat), x ∈ m → ∃ e, e ∈ mentries m i ∧ e.key = .int .i64 x
  | [], _, h => by cases h
  | y :: ys, i, h => by
    rcases List.mem_cons.1 h with rfl | h
    · exact ⟨_, List.mem_cons_self, rfl⟩
    · obtain ⟨e, h1, h2⟩ := mentries_has ys (i + 1) h
      exact ⟨e, List.mem_cons_of_mem _ h1, h2⟩
theorem mfind (m : List Int) (x : Int) : (x ∉ m ∧ Instr.findNow (.int .i64) (.int .i64 x) (mentries m 0) 0 = some none) ∨ (x ∈ m ∧ ∃ j e, Instr.findNow (.int .i64) (.int .i64 x) (mentries m 0) 0 = some (some (j, .bool true)) ∧ (mentries m 0)[j]? = some e ∧ e.key = .int .i64 x ∧ e.val = .bool true) := by
  have hk : IsKey (.int .i64) (.int .i64 x) := rfl
  have hks : ∀ e ∈ mentries m 0, IsKey (.int .i64) e.key := fun e he => by
    obtain ⟨y, _, h2, _⟩ := mentries_mem m 0 he
    rw [h2]; exact rfl
  rcases findNow_spec hk (mentries m 0) 0 hks with ⟨h1, h2⟩ | ⟨j, e, h1, h2, h3⟩
  · refine .inl ⟨fun hm => ?_, h1⟩
    obtain ⟨e, he, hx⟩ := mentries_has m 0 hm
    exact h2 e he hx
  · obtain ⟨y, hy, h4, h5⟩ := mentries_mem m 0 (List.mem_of_getElem? h2)
    rw [h3] at h4
    injection h4 with _ h4
    subst h4
    rw [Nat.zero_add, h5] at h1
    exact .inr ⟨hy, j, e, h1, h2, h3, h5⟩
section
variable {P : Program} {W : World} {t k e : TypeId} {g : Nat} {m : List Int} {x : Int}
theorem mlook (ht : P.underlying t = some (.map k e)) (hk : P.underlying k = some (.int .i64)) (hz : (zeroValue e).run P W = .ok (.bool false) W) (hb : W.heap[g]? = some (mapObj m)) :
    (Instr.lookup t (.map (some g)) (.int .i64 x) false).run P W = .ok (.bool (mhas m x)) W := by
  have hkey : IsKey (.int .i64) (.int .i64 x) := rfl
  unfold mapObj at hb
  rcases mfind m x with ⟨h1, h2⟩ | ⟨h1, j, e0, h2, _⟩
  · have hh : mhas m x = false := decide_eq_false h1
    simp [Instr.lookup, run_underlying ht, Go.MapKept.run_getObj_map hb, Go.MapKept.run_checkKey hk hkey, Go.MapKept.run_findKey hk h2, hz, hh, Result.andThen]
  · have hh : mhas m x = true := decide_eq_true h1
    simp [Instr.lookup, run_underlying ht, Go.MapKept.run_getObj_map hb, Go.MapKept.run_checkKey hk hkey, Go.MapKept.run_findKey hk h2, hh, Result.andThen]
theorem mupd (ht : P.underlying t = some (.map k e)) (hk : P.underlying k = some (.int .i64)) (hb : W.heap[g]? = some (mapObj m)) :
    (Instr.mapUpdate t (.map (some g)) (.int .i64 x) (.bool true)).run P W = .ok () { W with heap := W.heap.setIfInBounds g (mapObj (mput m x)) } := by
  have hkey : IsKey (.int .i64) (.int .i64 x) := rfl
  have hb' := hb
  unfold mapObj at hb
  rcases mfind m x with ⟨h1, h2⟩ | ⟨h1, j, e0, h2, h3, h4, h5⟩
  · have hp : mapObj (mput m x) = .map ((mentries m 0).toArray.push { key := .int .i64 x, val := .bool true, born := m.length }) (m.length + 1) := by
      unfold mapObj mput
      rw [if_neg h1, mentries_append, List.length_append]
      simp
    simp [Instr.mapUpdate, run_underlying ht, Go.MapKept.run_getObj_map hb, Go.MapKept.run_checkKey hk hkey, Go.MapKept.run_findKey hk h2, Go.MapKept.run_setObj_map _ hb, hp, Result.andThen]
  · have hj : (mentries m 0).toArray[j]? = some e0 := by simpa using h3
    have hmod : (mentries m 0).toArray.modify j (fun e => { e with key := .int .i64 x, val := .bool true }) = (mentries m 0).toArray := by
      apply Array.ext
      · simp
      · intro i h6 h7
        rw [Array.getElem_modify]
        split
        · rename_i hij
          subst hij
          have he0 : (mentries m 0).toArray[j] = e0 := by
            have := hj
            rw [Array.getElem?_eq_getElem h7] at this
            exact Option.some.inj this
          rw [he0]
          cases e0
          simp_all
        · rfl
    have hp : mapObj (mput m x) = .map (mentries m 0).toArray m.length := by
      unfold mapObj mput
      rw [if_pos h1]
    have hmod' : (mentries m 0).modify j (fun e => { e with key := .int .i64 x, val := .bool true }) = mentries m 0 := by
      have := congrArg Array.toList hmod
      simpa using this
    simp [Instr.mapUpdate, run_underlying ht, Go.MapKept.run_getObj_map hb, Go.MapKept.run_checkKey hk hkey, Go.MapKept.run_findKey hk h2, h3, h4, run_keyThatStays hkey, hmod', hp, Go.MapKept.run_setObj_map _ hb, Result.andThen]
variable {ops : Array Oper} {rest : List Oper} {o : Oper} {a : Act} {Q : Exit → Act → World → Prop}
theorem map_event (hgd : o.guard = none) {N : Tmp} (_hd : o.dst = some N)
    (hrun : (execOp a.eval o).run P W = .ok (.value (.map (some W.heap.size))) (W.alloc (.map #[] 0)))
    (h : ∀ g, g = W.heap.size → ∀ w1, w1.heap[g]? = some (mapObj []) → Below W.heap.size W w1 → wpList P ops Q rest (a.put o.dst (.map (some g))) w1) : wpList P ops Q (o :: rest) a W :=
  Kd.event_run hgd hrun (h _ rfl _ (by simpa [mapObj, mentries] using (heap_alloc W (.map #[] 0)).1) (below_alloc (Below.refl _ _) _))
theorem map_look_event (hgd : o.guard = none) {m1 x1 : Operand} (hop : o.op = .lookup t m1 x1 false) (hm : a.eval m1 = .map (some g)) (hx : a.eval x1 = .int .i64 x)
    (ht : P.underlying t = some (.map k e)) (hk : P.underlying k = some (.int .i64)) (hz : (zeroValue e).run P W = .ok (.bool false) W) (hb : W.heap[g]? = some (mapObj m)) {b : Bool} (hv : mhas m x = b)
    (h : wpList P ops Q rest (a.put o.dst (.bool b)) W) : wpList P ops Q (o :: rest) a W := by
  refine wpList_plain hgd fun K' hK' => ?_
  have hrun := mlook (x := x) ht hk hz hb
  rw [hv] at hrun
  unfold Oper.wp
  simp [execOp, hop, hm, hx, hrun, Result.andThen]
  exact hK' _ _ h
theorem map_put_event (hgd : o.guard = none) {m1 x1 : Operand} (hop : o.op = .mapUpdate t m1 x1 (.const (.bool true))) (hm : a.eval m1 = .map (some g)) (hx : a.eval x1 = .int .i64 x) (hN : o.dst = none)
    (ht : P.underlying t = some (.map k e)) (hk : P.underlying k = some (.int .i64)) (hb : W.heap[g]? = some (mapObj m))
    (h : ∀ w1, w1.heap[g]? = some (mapObj (mput m x)) → W.grownBy w1 (some g) → wpList P ops Q rest a w1) : wpList P ops Q (o :: rest) a W := by
  refine wpList_plain hgd fun K' hK' => ?_
  have hrun := mupd (x := x) ht hk hb
  have hv : a.eval (.const (.bool true)) = .bool true := rfl
  have hh := heap_set (o' := mapObj (mput m x)) hb
  have h' := h { W with heap := W.heap.setIfInBounds g (mapObj (mput m x)) } hh.1 ⟨rfl, rfl, rfl, by simp, fun i _ hi => hh.2 i (fun e => hi (by rw [e]))⟩
  unfold Oper.wp
  simp [execOp, hop, hm, hx, hv, hrun, Result.andThen]
  show K' (a.put o.dst undef) _
  rw [hN]
  exact hK' _ _ h'
end
section
variable {α : Type} {d : Kd α} {e g : Nat} {w w1 : World} {base : Nat} {ok : Nat → Prop} {v : Value} {xs : List α} {m : List Int}
theorem map_not {k : Nat} {cells : Array Value} {q : Nat} (hb : w.heap[g]? = some (mapObj m)) (hc : w.heap[k]? = some (.cells cells q (0, 0))) : k ≠ g := by
  rintro rfl
  rw [hc] at hb
  unfold mapObj at hb
  injection hb with hb
  cases hb
theorem R_mapkeep (h : d.R e w base ok v xs) (hb : w.heap[g]? = some (mapObj m)) (hg : w.grownBy w1 (some g)) : d.R e w1 base ok v xs :=
  Kd.R_mono (Kd.R_move (Kd.R_bound h) (fun k hk => hg.block k hk.2.2.1 (fun he => by
    obtain ⟨_, _, _, q, _, cells, hc⟩ := hk
    exact map_not hb hc (Option.some.inj he)))) (fun _ hk => hk.1)
theorem S_mapkeep (h : Kd.S d e w base ok v xs) (hb : w.heap[g]? = some (mapObj m)) (hg : w.grownBy w1 (some g)) : Kd.S d e w1 base ok v xs :=
  Kd.S_mono (Kd.S_move (Kd.S_bound h) (fun k hk => hg.block k hk.2.2.1 (fun he => by
    obtain ⟨_, _, _, q, _, cells, hc⟩ := hk
    exact map_not hb hc (Option.some.inj he)))) (fun _ hk => hk.1)
theorem R_nem (h : d.R e w base ok v xs) (hb : w.heap[g]? = some (mapObj m)) : some g ≠ v.ownBlock := fun he => by
  obtain ⟨cells, hc⟩ := Kd.R_typed h g he.symm
  exact map_not hb hc rfl
theorem S_nem (h : Kd.S d e w base ok v xs) (hb : w.heap[g]? = some (mapObj m)) : some g ≠ v.ownBlock := R_nem (Kd.S_R h) hb
theorem R_typesm (h : d.R e w base ok v xs) (hb : w.heap[g]? = some (mapObj m)) : d.R e w base (fun k => ok k ∧ k ≠ g) v xs :=
  Kd.R_mono (Kd.R_bound h) (fun k hk => ⟨hk.1, by
    obtain ⟨_, _, _, q, _, cells, hc⟩ := hk
    exact map_not hb hc⟩)
theorem S_typesm (h : Kd.S d e w base ok v xs) (hb : w.heap[g]? = some (mapObj m)) : Kd.S d e w base (fun k => ok k ∧ k ≠ g) v xs :=
  Kd.S_mono (Kd.S_bound h) (fun k hk => ⟨hk.1, by
    obtain ⟨_, _, _, q, _, cells, hc⟩ := hk
    exact map_not hb hc⟩)
theorem below_mapkeep {w0 : World} (h : Below w0.heap.size w0 w) (hg : w.grownBy w1 (some g)) (hge : w0.heap.size ≤ g) : Below w0.heap.size w0 w1 := h.grown hg h.size (fun j hj => by cases hj; exact hge)
end
end Go.Proofs.Ytkdddlkhildliaa.B
