/- The plain law of ParsePoset, with all that it stands on. -/
import Derived.Test.YtkadihmhaoghfaaDoorWWords
import Derived.Test.YtkadihmhaoghfaaDoorWMore
import Derived.Laws.BitsLemmas
import Derived.Lib.Join
import Derived.Lib.SplitLaws
import Derived.Test.YtkadihmhaoghfaaDoorB1
import Derived.Test.YtkadihmhaoghfaaDoorB10
import Derived.Test.YtkadihmhaoghfaaDoorB2
import Derived.Test.YtkadihmhaoghfaaDoorB3
import Derived.Test.YtkadihmhaoghfaaDoorB4
import Derived.Test.YtkadihmhaoghfaaDoorB5
import Derived.Test.YtkadihmhaoghfaaDoorB6
import Derived.Test.YtkadihmhaoghfaaDoorB7
import Derived.Test.YtkadihmhaoghfaaDoorB8
import Derived.Test.YtkadihmhaoghfaaDoorB9
namespace Go.Proofs.YtkadihmhaoghfaaDoor.M
open Go.RowKit Go.Proofs.YtkadihmhaoghfaaDoorW.PrintWords Go.Proofs.YtkadihmhaoghfaaDoorW.PrintLast Go.Proofs.YtkadihmhaoghfaaDoorW.PrintMore

theorem ev_now {α : Type} (r : α) : Ev (fun _ => some r) r := Ev.now r
theorem ev_const {α : Type} {g : Option α} {r : α} (h : g = some r) : Ev (fun _ => g) r := ⟨0, fun _ _ => h⟩
theorem ev_eq {α : Type} {g : Nat → Option α} {r r' : α} (h : Ev g r) (e : r = r') : Ev g r' := e ▸ h
theorem ev_unique {α : Type} {g : Nat → Option α} {r r' : α} (h : Ev g r) (h' : Ev g r') : r = r' := by
 obtain ⟨K, h⟩ := h
 obtain ⟨K', h'⟩ := h'
 have h1 := h (max K K') (by omega)
 have h2 := h' (max K K') (by omega)
 rw [h1] at h2
 exact Option.some.inj h2
theorem ev_step {α : Type} {g f : Nat → Option α} {r : α} (k : Ev f r) (h : ∀ k, g (k + 1) = f k) : Ev g r := Ev.step h k
theorem ev_as {α : Type} {g f : Nat → Option α} {r : α} (k : Ev f r) (h : ∀ k, g k = f k) : Ev g r := Ev.congr h k
theorem ev_bind {α β : Type} {A : Nat → Option α} {F : Nat → α → Option β} {g : Nat → Option β} {a : α} {r : β} (ha : Ev A a) (hb : Ev (fun n => F n a) r) (h : ∀ k, g k = (A k).bind (F k)) : Ev g r := Ev.congr h (Ev.bind ha hb)
theorem ev_stepb {α β : Type} {A : Nat → Option α} {F : Nat → α → Option β} {g : Nat → Option β} {a : α} {r : β} (ha : Ev A a) (hb : Ev (fun n => F n a) r) (h : ∀ k, g (k + 1) = (A k).bind (F k)) : Ev g r := Ev.step h (Ev.bind ha hb)
theorem ev_down {σ β : Type} (g : Nat → σ → Int → Option β) (R : Nat → σ → β) (n : Nat) (Inv : Nat → σ → Prop)
  (hn : ∀ st, Inv n st → Ev (fun k => g k st (n : Int)) (R n st))
  (hs : ∀ (i : Nat) st, i < n → Inv i st → (∀ st', Inv (i + 1) st' → Ev (fun k => g k st' ((i : Int) + 1)) (R (i + 1) st')) → Ev (fun k => g k st (i : Int)) (R i st)) :
  ∀ (i : Nat) st, i ≤ n → Inv i st → Ev (fun k => g k st (i : Int)) (R i st) := by
 have H : ∀ d i st, n - i = d → i ≤ n → Inv i st → Ev (fun k => g k st (i : Int)) (R i st) := by
  intro d
  induction d with
  | zero =>
   intro i st hd hi hI
   obtain rfl : i = n := by omega
   exact hn st hI
  | succ d ih =>
   intro i st hd hi hI
   refine hs i st (by omega) hI (fun st' hI' => ?_)
   have := ih (i + 1) st' (by omega) (by omega) hI'
   rwa [show (((i + 1 : Nat)) : Int) = (i : Int) + 1 by omega] at this
 exact fun i st hi hI => H (n - i) i st rfl hi hI

theorem wrap64_id {x : Int} (h1 : -9223372036854775808 ≤ x) (h2 : x ≤ 9223372036854775807) : wrap64 x = x := by unfold wrap64; omega
theorem rd_nat (l : List Int) (i : Nat) : rd l (i : Int) = l.getD i 0 := by unfold rd; rw [Int.toNat_natCast]
theorem rd_cast (l : List Nat) (i : Nat) : rd (l.map (fun x : Nat => (x : Int))) (i : Int) = ((l.getD i 0 : Nat) : Int) := by
 rw [rd_nat]
 simp only [List.getD_eq_getElem?_getD, List.getElem?_map]
 cases l[i]? <;> simp

theorem w63 (n : Int) (h0 : 0 ≤ n) (h1 : n < 2 ^ 63) : IntKind.i64.wrap n = n := by rw [IntKind.wrap_i64]; omega
theorem and_nat {a b : Nat} (ha : a < 2 ^ 63) (hb : b < 2 ^ 63) : Go.bits .and .i64 (a : Int) (b : Int) = ((a &&& b : Nat) : Int) := (bits_nat .i64 63 (by decide) w63 a b ha hb).1
theorem or_nat {a b : Nat} (ha : a < 2 ^ 63) (hb : b < 2 ^ 63) : Go.bits .or .i64 (a : Int) (b : Int) = ((a ||| b : Nat) : Int) := (bits_nat .i64 63 (by decide) w63 a b ha hb).2
def sd (a b : Nat) : Nat := a ^^^ (a &&& b)
theorem sd_bit (a b i : Nat) : (sd a b).testBit i = (a.testBit i && !b.testBit i) := by
 unfold sd
 rw [Nat.testBit_xor, Nat.testBit_and]
 cases a.testBit i <;> cases b.testBit i <;> rfl
theorem sd_lt {a b n : Nat} (ha : a < 2 ^ n) : sd a b < 2 ^ n := Nat.xor_lt_two_pow ha (Nat.lt_of_le_of_lt Nat.and_le_left ha)
theorem andNot_nat {a b : Nat} (ha : a < 2 ^ 63) (hb : b < 2 ^ 63) : Go.bits .andNot .i64 (a : Int) (b : Int) = ((sd a b : Nat) : Int) := by
 have h1 : (BitVec.ofInt 64 (a : Int) &&& ~~~ BitVec.ofInt 64 (b : Int)).toNat = sd a b := by
  apply Nat.eq_of_testBit_eq
  intro i
  rw [BitVec.testBit_toNat, sd_bit, BitVec.getLsbD_and, BitVec.getLsbD_not, ← BitVec.testBit_toNat, ← BitVec.testBit_toNat, BitVec.ofInt_natCast, BitVec.ofInt_natCast, BitVec.toNat_ofNat, BitVec.toNat_ofNat,
   Nat.mod_eq_of_lt (by omega : a < 2 ^ 64), Nat.mod_eq_of_lt (by omega : b < 2 ^ 64)]
  by_cases hi : i < 64
  ·simp [hi]
  ·have : a.testBit i = false := Nat.testBit_lt_two_pow (Nat.lt_of_lt_of_le (by omega : a < 2 ^ 64) (Nat.pow_le_pow_right (by decide) (by omega)))
   simp [this]
 show IntKind.i64.wrap ((BitVec.ofInt 64 (a : Int) &&& ~~~ BitVec.ofInt 64 (b : Int)).toNat : Int) = _
 rw [h1]
 have := sd_lt (b := b) ha
 exact w63 _ (by omega) (by exact_mod_cast this)
theorem xor_nat {a b : Nat} (ha : a < 2 ^ 63) (hb : b < 2 ^ 63) : Go.bits .xor .i64 (a : Int) (b : Int) = ((a ^^^ b : Nat) : Int) := by
 have h1 : (BitVec.ofInt 64 (a : Int) ^^^ BitVec.ofInt 64 (b : Int)).toNat = a ^^^ b := by
  rw [BitVec.toNat_xor, BitVec.ofInt_natCast, BitVec.ofInt_natCast, BitVec.toNat_ofNat, BitVec.toNat_ofNat, Nat.mod_eq_of_lt (by omega : a < 2 ^ 64), Nat.mod_eq_of_lt (by omega : b < 2 ^ 64)]
 show IntKind.i64.wrap ((BitVec.ofInt 64 (a : Int) ^^^ BitVec.ofInt 64 (b : Int)).toNat : Int) = _
 rw [h1]
 have := Nat.xor_lt_two_pow ha hb
 exact w63 _ (by omega) (by exact_mod_cast this)
theorem shl_one {i : Nat} (hi : i < 63) : shl .i64 1 (i : Int) = ((2 ^ i : Nat) : Int) := by
 unfold shl
 rw [Int.toNat_natCast, show IntKind.i64.bits = 64 from rfl, Nat.min_eq_left (by omega), Int.one_mul]
 have h : (2 : Nat) ^ i < 2 ^ 63 := Nat.pow_lt_pow_right (by decide) hi
 rw [w63 _ (Int.pow_nonneg (by decide)) (by exact_mod_cast h)]
 simp
theorem shr_nat {s i : Nat} (hi : i ≤ 64) : shr .i64 (s : Int) (i : Int) = ((s / 2 ^ i : Nat) : Int) := by
 unfold shr
 rw [Int.toNat_natCast, show IntKind.i64.bits = 64 from rfl, Nat.min_eq_left hi]
 simp
theorem bit_div (s i : Nat) : s.testBit i = decide (s / 2 ^ i % 2 = 1) := by
 rw [Nat.testBit_eq_decide_div_mod_eq]
theorem bit_tmod {s i : Nat} (hi : i ≤ 64) : (Int.tmod (shr .i64 (s : Int) (i : Int)) 2 = 1) ↔ s.testBit i = true := by
 rw [shr_nat hi, bit_div, decide_eq_true_eq, Int.tmod_eq_emod_of_nonneg (Int.natCast_nonneg _)]
 generalize s / 2 ^ i = q
 omega
theorem bit_and1 {s i : Nat} (hs : s < 2 ^ 63) (hi : i ≤ 64) : (Go.bits .and .i64 (shr .i64 (s : Int) (i : Int)) 1 = 1) ↔ s.testBit i = true := by
 have h2 : s / 2 ^ i < 2 ^ 63 := Nat.lt_of_le_of_lt (Nat.div_le_self _ _) hs
 rw [shr_nat hi, show (1 : Int) = ((1 : Nat) : Int) from rfl, and_nat h2 (by decide), bit_div, decide_eq_true_eq, Nat.and_one_is_mod]
 omega
theorem two_pow_le {i j : Nat} (h : i ≤ j) : (2 : Nat) ^ i ≤ 2 ^ j := Nat.pow_le_pow_right (by decide) h
theorem two_pow_lt63 {i : Nat} (h : i < 63) : (2 : Nat) ^ i < 2 ^ 63 := Nat.pow_lt_pow_right (by decide) h
theorem mask_sub {i : Nat} (hi : i < 63) : wrap64 (shl .i64 1 (i : Int) - 1) = ((2 ^ i - 1 : Nat) : Int) := by
 rw [shl_one hi]
 have h := two_pow_lt63 hi
 have h1 : 1 ≤ 2 ^ i := Nat.one_le_two_pow
 unfold wrap64
 omega

def foldFrom {σ : Type} (f : σ → Nat → σ) (i n : Nat) (st : σ) : σ := (List.range' i (n - i)).foldl f st
theorem foldFrom_end {σ : Type} (f : σ → Nat → σ) (n : Nat) (st : σ) : foldFrom f n n st = st := by unfold foldFrom; simp
theorem foldFrom_step {σ : Type} (f : σ → Nat → σ) {i n : Nat} (h : i < n) (st : σ) : foldFrom f i n st = foldFrom f (i + 1) n (f st i) := by
 unfold foldFrom
 obtain ⟨d, hd⟩ : ∃ d, n - i = d + 1 := ⟨n - i - 1, by omega⟩
 rw [hd, show n - (i + 1) = d by omega, List.range'_succ, List.foldl_cons]
def allFrom (f : Nat → Bool) (i n : Nat) : Bool := (List.range' i (n - i)).all f
theorem allFrom_end (f : Nat → Bool) (n : Nat) : allFrom f n n = true := by unfold allFrom; simp
theorem allFrom_step (f : Nat → Bool) {i n : Nat} (h : i < n) : allFrom f i n = (f i && allFrom f (i + 1) n) := by
 unfold allFrom
 obtain ⟨d, hd⟩ : ∃ d, n - i = d + 1 := ⟨n - i - 1, by omega⟩
 rw [hd, show n - (i + 1) = d by omega, List.range'_succ, List.all_cons]
theorem allFrom_iff (f : Nat → Bool) (i n : Nat) : allFrom f i n = true ↔ ∀ j, i ≤ j → j < n → f j = true := by
 unfold allFrom
 rw [List.all_eq_true]
 constructor
 ·intro h j h1 h2
  exact h j (by rw [List.mem_range'_1]; omega)
 ·intro h j hj
  rw [List.mem_range'_1] at hj
  exact h j (by omega) (by omega)
theorem drop_step {α : Type} (xs : List α) (d : α) {i : Nat} (h : i < xs.length) : xs.drop i = xs.getD i d :: xs.drop (i + 1) := by
 rw [List.drop_eq_getElem_cons h]
 congr 1
 rw [List.getD_eq_getElem?_getD, List.getElem?_eq_getElem h, Option.getD_some]

theorem getD_memN {o : List Nat} {i : Nat} (h : i < o.length) : o.getD i 0 ∈ o := by
 rw [List.getD_eq_getElem?_getD, List.getElem?_eq_getElem h, Option.getD_some]; exact List.getElem_mem h
def items (s : Nat) : List Nat := (List.range 10).filter (fun e => s.testBit e)
def itemsUpto (s e : Nat) : List Nat := (List.range e).filter (fun e => s.testBit e)
theorem mem_items {s e : Nat} : e ∈ items s ↔ e < 10 ∧ s.testBit e = true := by
 unfold items; rw [List.mem_filter, List.mem_range]
theorem bit_lt {s n e : Nat} (hs : s < 2 ^ n) (h : s.testBit e = true) : e < n := by
 rcases Nat.lt_or_ge e n with h1 | h1
 ·exact h1
 ·have := Nat.testBit_lt_two_pow (Nat.lt_of_lt_of_le hs (two_pow_le h1))
  rw [this] at h; cases h
theorem filter_range_ext {s n m : Nat} (hs : s < 2 ^ n) (hm : n ≤ m) : (List.range m).filter (fun e => s.testBit e) = (List.range n).filter (fun e => s.testBit e) := by
 obtain ⟨d, rfl⟩ : ∃ d, m = n + d := ⟨m - n, by omega⟩
 induction d with
 | zero => rfl
 | succ d ih =>
  rw [← Nat.add_assoc, List.range_succ, List.filter_append, ih (by omega)]
  have : s.testBit (n + d) = false := Nat.testBit_lt_two_pow (Nat.lt_of_lt_of_le hs (two_pow_le (by omega)))
  simp [this]
theorem items_eq {s n : Nat} (hs : s < 2 ^ n) (hn : n ≤ 10) : items s = (List.range n).filter (fun e => s.testBit e) := filter_range_ext hs hn
theorem foldl_filter {α σ : Type} (p : α → Bool) (f : σ → α → σ) (l : List α) (st : σ) : (l.filter p).foldl f st = l.foldl (fun st x => if p x then f st x else st) st := by
 induction l generalizing st with
 | nil => rfl
 | cons x l ih =>
  rw [List.filter_cons]
  cases hp : p x <;> simp [hp, ih]
theorem fold_items {σ : Type} (f : σ → Nat → σ) {s n : Nat} (hs : s < 2 ^ n) (hn : n ≤ 10) (st : σ) : (items s).foldl f st = foldFrom (fun st e => if s.testBit e then f st e else st) 0 n st := by
 rw [items_eq hs hn, foldl_filter]
 unfold foldFrom
 rw [Nat.sub_zero, List.range_eq_range']
theorem all_filter {α : Type} (p f : α → Bool) (l : List α) : (l.filter p).all f = l.all (fun x => !p x || f x) := by
 induction l with
 | nil => rfl
 | cons x l ih =>
  rw [List.filter_cons]
  cases hp : p x <;> simp [hp, ih]
theorem all_items (f : Nat → Bool) {s n : Nat} (hs : s < 2 ^ n) (hn : n ≤ 10) : (items s).all f = allFrom (fun e => !s.testBit e || f e) 0 n := by
 rw [items_eq hs hn, all_filter]
 unfold allFrom
 rw [Nat.sub_zero, List.range_eq_range']

theorem foldFrom_inv {σ : Type} (f : σ → Nat → σ) (Q : Nat → σ → Prop) (n : Nat) (hs : ∀ i st, i < n → Q i st → Q (i + 1) (f st i)) : ∀ (i : Nat) (st : σ), i ≤ n → Q i st → Q n (foldFrom f i n st) := by
 have H : ∀ d i st, n - i = d → i ≤ n → Q i st → Q n (foldFrom f i n st) := by
  intro d
  induction d with
  | zero =>
   intro i st hd hi hQ
   obtain rfl : i = n := by omega
   rw [foldFrom_end]; exact hQ
  | succ d ih =>
   intro i st hd hi hQ
   rw [foldFrom_step _ (by omega)]
   exact ih (i + 1) _ (by omega) (by omega) (hs i st (by omega) hQ)
 exact fun i st hi hQ => H (n - i) i st rfl hi hQ
def dn (P : List Nat) (s : Nat) : Nat := foldFrom (fun o i => if s.testBit i then o ||| P.getD i 0 else o) 0 P.length s
def tp (P : List Nat) (s : Nat) : Nat := foldFrom (fun o i => if s.testBit i then sd o (P.getD i 0) else o) 0 P.length s
def bm (P : List Nat) (s : Nat) : Nat := foldFrom (fun o i => if s.testBit i then (if P.getD i 0 &&& s = 0 then o ||| 2 ^ i else o) else o) 0 P.length 0
def idl (P : List Nat) (s : Nat) : Bool := allFrom (fun i => !s.testBit i || decide (sd (P.getD i 0) s = 0)) 0 P.length
theorem sd_eq_zero {a b : Nat} : sd a b = 0 ↔ ∀ j, a.testBit j = true → b.testBit j = true := by
 constructor
 ·intro h j hj
  have := sd_bit a b j
  rw [h, Nat.zero_testBit, hj] at this
  cases hb : b.testBit j <;> simp [hb] at this ⊢
 ·intro h
  apply Nat.eq_of_testBit_eq
  intro j
  rw [sd_bit, Nat.zero_testBit]
  cases hj : a.testBit j with
  | false => rfl
  | true => rw [h j hj]; rfl
theorem and_eq_zero {a b : Nat} : a &&& b = 0 ↔ ∀ j, a.testBit j = true → b.testBit j = false := by
 constructor
 ·intro h j hj
  have := Nat.testBit_and a b j
  rw [h, Nat.zero_testBit, hj, Bool.true_and] at this
  exact this.symm
 ·intro h
  apply Nat.eq_of_testBit_eq
  intro j
  rw [Nat.testBit_and, Nat.zero_testBit]
  cases hj : a.testBit j with
  | false => rfl
  | true => rw [h j hj]; rfl
theorem dn_bit (P : List Nat) (s j : Nat) : (dn P s).testBit j = true ↔ s.testBit j = true ∨ ∃ i, i < P.length ∧ s.testBit i = true ∧ (P.getD i 0).testBit j = true := by
 have H := foldFrom_inv (fun o i => if s.testBit i then o ||| P.getD i 0 else o) (fun m o => o.testBit j = true ↔ s.testBit j = true ∨ ∃ i, i < m ∧ s.testBit i = true ∧ (P.getD i 0).testBit j = true) P.length ?_ 0 s (by omega) ?_
 ·exact H
 ·intro i o hi hQ
  cases hb : s.testBit i with
  | true =>
   rw [if_pos rfl, Nat.testBit_or, Bool.or_eq_true, hQ]
   constructor
   ·rintro ((h | ⟨i', h1, h2, h3⟩) | h)
    ·exact .inl h
    ·exact .inr ⟨i', by omega, h2, h3⟩
    ·exact .inr ⟨i, by omega, hb, h⟩
   ·rintro (h | ⟨i', h1, h2, h3⟩)
    ·exact .inl (.inl h)
    ·rcases Nat.lt_or_ge i' i with h4 | h4
     ·exact .inl (.inr ⟨i', h4, h2, h3⟩)
     ·rw [show i' = i by omega] at h3; exact .inr h3
  | false =>
   rw [if_neg (by simp), hQ]
   constructor
   ·rintro (h | ⟨i', h1, h2, h3⟩)
    ·exact .inl h
    ·exact .inr ⟨i', by omega, h2, h3⟩
   ·rintro (h | ⟨i', h1, h2, h3⟩)
    ·exact .inl h
    ·rcases Nat.lt_or_ge i' i with h4 | h4
     ·exact .inr ⟨i', h4, h2, h3⟩
     ·rw [show i' = i by omega, hb] at h2; cases h2
 ·constructor
  ·exact .inl
  ·rintro (h | ⟨i', h1, _⟩)
   ·exact h
   ·omega
theorem tp_bit (P : List Nat) (s j : Nat) : (tp P s).testBit j = true ↔ s.testBit j = true ∧ ∀ i, i < P.length → s.testBit i = true → (P.getD i 0).testBit j = false := by
 have H := foldFrom_inv (fun o i => if s.testBit i then sd o (P.getD i 0) else o) (fun m o => o.testBit j = true ↔ s.testBit j = true ∧ ∀ i, i < m → s.testBit i = true → (P.getD i 0).testBit j = false) P.length ?_ 0 s (by omega) ?_
 ·exact H
 ·intro i o hi hQ
  cases hb : s.testBit i with
  | true =>
   rw [if_pos rfl, sd_bit, Bool.and_eq_true, hQ]
   constructor
   ·rintro ⟨⟨h1, h2⟩, h3⟩
    refine ⟨h1, fun i' hi' hs' => ?_⟩
    rcases Nat.lt_or_ge i' i with h4 | h4
    ·exact h2 i' h4 hs'
    ·rw [show i' = i by omega]; simpa using h3
   ·rintro ⟨h1, h2⟩
    exact ⟨⟨h1, fun i' hi' => h2 i' (by omega)⟩, by simpa using h2 i (by omega) hb⟩
  | false =>
   rw [if_neg (by simp), hQ]
   constructor
   ·rintro ⟨h1, h2⟩
    refine ⟨h1, fun i' hi' hs' => ?_⟩
    rcases Nat.lt_or_ge i' i with h4 | h4
    ·exact h2 i' h4 hs'
    ·rw [show i' = i by omega, hb] at hs'; cases hs'
   ·rintro ⟨h1, h2⟩
    exact ⟨h1, fun i' hi' => h2 i' (by omega)⟩
 ·exact ⟨fun h => ⟨h, fun i hi => absurd hi (by omega)⟩, fun h => h.1⟩
theorem bm_bit (P : List Nat) (s j : Nat) : (bm P s).testBit j = true ↔ j < P.length ∧ s.testBit j = true ∧ P.getD j 0 &&& s = 0 := by
 have H := foldFrom_inv (fun o i => if s.testBit i then (if P.getD i 0 &&& s = 0 then o ||| 2 ^ i else o) else o) (fun m o => o.testBit j = true ↔ j < m ∧ s.testBit j = true ∧ P.getD j 0 &&& s = 0) P.length ?_ 0 0 (by omega) ?_
 ·exact H
 ·intro i o hi hQ
  cases hb : s.testBit i with
  | true =>
   by_cases h0 : P.getD i 0 &&& s = 0
   ·simp only [h0, if_true]
    rw [Nat.testBit_or, Bool.or_eq_true, hQ, Nat.testBit_two_pow, decide_eq_true_eq]
    constructor
    ·rintro (⟨h1, h2⟩ | rfl)
     ·exact ⟨by omega, h2⟩
     ·exact ⟨by omega, hb, h0⟩
    ·rintro ⟨h1, h2⟩
     rcases Nat.lt_or_ge j i with h4 | h4
     ·exact .inl ⟨h4, h2⟩
     ·exact .inr (by omega)
   ·simp only [h0, if_true, if_false]
    rw [hQ]
    constructor
    ·rintro ⟨h1, h2⟩; exact ⟨by omega, h2⟩
    ·rintro ⟨h1, h2, h3⟩
     rcases Nat.lt_or_ge j i with h4 | h4
     ·exact ⟨h4, h2, h3⟩
     ·rw [show j = i by omega] at h3; exact absurd h3 h0
  | false =>
   simp only [Bool.false_eq_true, if_false]
   rw [hQ]
   constructor
   ·rintro ⟨h1, h2⟩; exact ⟨by omega, h2⟩
   ·rintro ⟨h1, h2, h3⟩
    rcases Nat.lt_or_ge j i with h4 | h4
    ·exact ⟨h4, h2, h3⟩
    ·rw [show j = i by omega, hb] at h2; cases h2
 ·simp
theorem idl_iff (P : List Nat) (s : Nat) : idl P s = true ↔ ∀ i, i < P.length → s.testBit i = true → ∀ j, (P.getD i 0).testBit j = true → s.testBit j = true := by
 unfold idl
 rw [allFrom_iff]
 constructor
 ·intro h i hi hs
  have := h i (by omega) hi
  rw [hs] at this
  simp only [Bool.not_true, Bool.false_or, decide_eq_true_eq] at this
  exact sd_eq_zero.1 this
 ·intro h i _ hi
  cases hs : s.testBit i with
  | false => simp
  | true => rw [decide_eq_true (sd_eq_zero.2 (h i hi hs))]; rfl
theorem idl_dn (P : List Nat) (s : Nat) : idl P s = decide (dn P s = s) := by
 rw [Bool.eq_iff_iff, idl_iff, decide_eq_true_eq]
 constructor
 ·intro h
  apply Nat.eq_of_testBit_eq
  intro j
  rw [Bool.eq_iff_iff, dn_bit]
  constructor
  ·rintro (h1 | ⟨i, h1, h2, h3⟩)
   ·exact h1
   ·exact h i h1 h2 j h3
  ·exact .inl
 ·intro h i hi hs j hj
  rw [← h, dn_bit]
  exact .inr ⟨i, hi, hs, hj⟩
theorem lt_of_bits {x n : Nat} (h : ∀ j, x.testBit j = true → j < n) : x < 2 ^ n := by
 apply Nat.lt_pow_two_of_testBit
 intro i hi
 cases hb : x.testBit i with
 | false => rfl
 | true => have := h i hb; omega
end Go.Proofs.YtkadihmhaoghfaaDoor.M

namespace Go.Proofs.YtkadihmhaoghfaaDoor.B
open Go.RowKit Go.Proofs.YtkadihmhaoghfaaDoor.M Go.Proofs.YtkadihmhaoghfaaDoorW.PrintWords Go.Proofs.YtkadihmhaoghfaaDoorW.PrintLast Go.Proofs.YtkadihmhaoghfaaDoorW.PrintMore

attribute [local irreducible] Go.bits shl shr sd
theorem l1In_is (a b c : Int) : spec_l1In.f a b c = some (decide (b ≤ a ∧ a ≤ c)) := by
 unfold spec_l1In.f
 by_cases h : a ≥ b
 ·rw [if_pos h]; simp [show b ≤ a from h]
 ·rw [if_neg h]; simp [show ¬ b ≤ a from h]
theorem within_is (a b c : Int) : impl_within.f a b c = some (decide (b ≤ a ∧ a ≤ c)) := by
 unfold impl_within.f
 by_cases h : b ≤ a
 ·rw [if_pos h]; simp [h]
 ·rw [if_neg h]; simp [h]
theorem has_is {s e : Nat} (hs : s < 2 ^ 63) (he : e ≤ 64) : impl_has.f (s : Int) (e : Int) = some (s.testBit e) := by
 unfold impl_has.f
 rw [if_pos (by omega)]
 congr 1
 have := bit_and1 hs he
 cases hb : s.testBit e
 ·rw [hb] at this; simpa using this
 ·rw [hb] at this; simpa using this
theorem items_l0 {s : Nat} (hs : s < 2 ^ 63) : ∀ (e : Nat) (_ : Unit), e ≤ 10 → True →
  Ev (fun k => impl_items.l0 k (s : Int) ((itemsUpto s e).map (fun x : Nat => (x : Int))) (e : Int)) ((items s).map (fun x : Nat => (x : Int))) := by
 have H : ∀ (e : Nat) (st : List Int), e ≤ 10 → st = (itemsUpto s e).map (fun x : Nat => (x : Int)) → Ev (fun k => impl_items.l0 k (s : Int) st (e : Int)) ((items s).map (fun x : Nat => (x : Int))) := by
  refine ev_down (fun k (st : List Int) e => impl_items.l0 k (s : Int) st e) (fun _ _ => (items s).map (fun x : Nat => (x : Int))) 10 (fun e st => st = (itemsUpto s e).map (fun x : Nat => (x : Int))) ?_ ?_
  ·rintro st rfl
   exact ev_step (Ev.now _) (fun k => by simp only [impl_items.l0]; rw [if_neg (by omega)]; rfl)
  ·rintro e st he rfl ih
   have hl : (itemsUpto s e).length ≤ e := by unfold itemsUpto; exact Nat.le_trans (List.length_filter_le _ _) (by simp)
   have hw : wrap64 ((e : Int) + 1) = (e : Int) + 1 := wrap64_id (by omega) (by omega)
   have hn : itemsUpto s (e + 1) = itemsUpto s e ++ (if s.testBit e then [e] else []) := by
    unfold itemsUpto
    rw [List.range_succ, List.filter_append]
    cases h : s.testBit e <;> simp [h]
   cases hb : s.testBit e with
   | true =>
    refine ev_step (ih _ rfl) (fun k => ?_)
    simp only [impl_items.l0]
    rw [if_pos (by omega), has_is hs (by omega), hb, Option.bind_some, if_pos rfl, if_pos (by rw [List.length_map]; omega), hw, hn, hb, if_pos rfl, List.map_append]
    rfl
   | false =>
    refine ev_step (ih _ rfl) (fun k => ?_)
    simp only [impl_items.l0]
    rw [if_pos (by omega), has_is hs (by omega), hb, Option.bind_some, if_neg (by decide), hw, hn, hb, if_neg (by decide), List.append_nil]
 exact fun e _ he _ => H e _ he rfl
theorem items_ev {s : Nat} (hs : s < 2 ^ 63) : Ev (fun k => impl_items.f k (s : Int)) ((items s).map (fun x : Nat => (x : Int))) := by
 unfold impl_items.f
 have := items_l0 hs 0 () (by omega) trivial
 simpa [itemsUpto] using this

def cellB (l : List Int) (i j : Nat) : Bool := !((l.getD i 0).toNat.testBit j) || decide (sd (l.getD j 0).toNat (l.getD i 0).toNat = 0)
def rowB (l : List Int) (i : Nat) : Bool := decide (0 ≤ l.getD i 0 ∧ l.getD i 0 ≤ ((2 ^ i - 1 : Nat) : Int)) && allFrom (cellB l i) 0 i
def goodB (l : List Int) : Bool := decide (1 ≤ (l.length : Int) ∧ (l.length : Int) ≤ 10) && allFrom (rowB l) 0 l.length
theorem rowB_bound {l : List Int} {i : Nat} (h : rowB l i = true) : ∃ x : Nat, l.getD i 0 = (x : Int) ∧ x < 2 ^ i := by
 unfold rowB at h
 rw [Bool.and_eq_true, decide_eq_true_eq] at h
 have := Nat.one_le_two_pow (n := i)
 exact ⟨(l.getD i 0).toNat, by omega, by omega⟩
theorem p63 {x i : Nat} (h : x < 2 ^ i) (hi : i ≤ 62) : x < 2 ^ 63 := Nat.lt_of_lt_of_le h (two_pow_le (by omega))
theorem sd_zero_nat {a b : Nat} : ((sd a b : Nat) : Int) = 0 ↔ sd a b = 0 := by omega

abbrev cast (P : List Nat) : List Int := P.map (fun x : Nat => (x : Int))
theorem cast_length (P : List Nat) : ((cast P).length : Int) = (P.length : Int) := by simp
def subB (l : List Int) (x j : Nat) : Bool := decide (sd (l.getD j 0).toNat x = 0)
theorem cell_sub (l : List Int) {i x : Nat} (hi : i ≤ 10) (hx : l.getD i 0 = (x : Int)) (hxi : x < 2 ^ i) : (items x).all (subB l x) = allFrom (cellB l i) 0 i := by
 rw [all_items _ hxi hi]
 congr 1
 funext j
 unfold cellB subB
 rw [hx, Int.toNat_natCast]
structure Good (l : List Int) (P : List Nat) : Prop where
 eq : l = cast P
 n1 : 1 ≤ P.length
 n10 : P.length ≤ 10
 lt : ∀ i, i < P.length → P.getD i 0 < 2 ^ i
 tr : ∀ i, i < P.length → ∀ j, (P.getD i 0).testBit j = true → sd (P.getD j 0) (P.getD i 0) = 0
theorem good_of {l : List Int} (h : goodB l = true) : ∃ P, Good l P := by
 unfold goodB at h
 rw [Bool.and_eq_true, decide_eq_true_eq, allFrom_iff] at h
 obtain ⟨hl, hr⟩ := h
 refine ⟨l.map Int.toNat, ?_, by simp; omega, by simp; omega, ?_, ?_⟩
 ·unfold cast
  rw [List.map_map]
  apply List.ext_getElem
  ·simp
  ·intro i h1 h2
   obtain ⟨x, hx, _⟩ := rowB_bound (hr i (by omega) h1)
   rw [List.getD_eq_getElem?_getD, List.getElem?_eq_getElem h1, Option.getD_some] at hx
   simp [hx]
 ·intro i hi
  rw [List.length_map] at hi
  obtain ⟨x, hx, hxi⟩ := rowB_bound (hr i (by omega) hi)
  have : (l.map Int.toNat).getD i 0 = x := by
   rw [List.getD_eq_getElem?_getD, List.getElem?_map]
   rw [List.getD_eq_getElem?_getD] at hx
   rw [List.getElem?_eq_getElem hi] at hx ⊢
   simp at hx ⊢
   omega
  rw [this]; exact hxi
 ·intro i hi j hj
  rw [List.length_map] at hi
  have hD : ∀ e, (l.map Int.toNat).getD e 0 = (l.getD e 0).toNat := fun e => by
   simp only [List.getD_eq_getElem?_getD, List.getElem?_map]
   cases l[e]? <;> simp
  rw [hD] at hj ⊢
  rw [hD]
  have h2 := hr i (by omega) hi
  obtain ⟨x, hx, hxi⟩ := rowB_bound h2
  unfold rowB at h2
  rw [Bool.and_eq_true, allFrom_iff] at h2
  have hji : j < i := by rw [hx, Int.toNat_natCast] at hj; exact bit_lt hxi hj
  have h3 := h2.2 j (by omega) hji
  unfold cellB at h3
  rw [hj] at h3
  simpa using h3
theorem Good.length {l : List Int} {P : List Nat} (h : Good l P) : (l.length : Int) = (P.length : Int) := by rw [h.eq]; simp
theorem Good.lt63 {l : List Int} {P : List Nat} (h : Good l P) (i : Nat) : P.getD i 0 < 2 ^ 63 := by
 rcases Nat.lt_or_ge i P.length with h1 | h1
 ·exact p63 (h.lt i h1) (by have := h.n10; omega)
 ·rw [List.getD_eq_getElem?_getD, List.getElem?_eq_none h1]; decide
theorem Good.ltn {l : List Int} {P : List Nat} (h : Good l P) (i : Nat) : P.getD i 0 < 2 ^ P.length := by
 rcases Nat.lt_or_ge i P.length with h1 | h1
 ·exact Nat.lt_of_lt_of_le (h.lt i h1) (two_pow_le (by omega))
 ·rw [List.getD_eq_getElem?_getD, List.getElem?_eq_none h1]; exact Nat.two_pow_pos _
end Go.Proofs.YtkadihmhaoghfaaDoor.B

namespace Go.Proofs.YtkadihmhaoghfaaDoor.B
open Go.RowKit Go.Proofs.YtkadihmhaoghfaaDoor.M Go.Proofs.YtkadihmhaoghfaaDoorW.PrintWords Go.Proofs.YtkadihmhaoghfaaDoorW.PrintLast Go.Proofs.YtkadihmhaoghfaaDoorW.PrintMore
attribute [local irreducible] Go.bits shl shr sd
def pj (o : List Int) : Nat := (rd o 0).toNat
def pi' (o : List Int) : Nat := (rd o 1).toNat
theorem getD_set (st : List Nat) (i x v : Nat) (hi : i < st.length) : (st.set i v).getD x 0 = if x = i then v else st.getD x 0 := by
 rw [List.getD_eq_getElem?_getD, List.getElem?_set, List.getD_eq_getElem?_getD]
 by_cases h : i = x
 ·subst h
  rw [if_pos rfl, if_pos hi, if_pos rfl, Option.getD_some]
 ·rw [if_neg h, if_neg (fun e => h e.symm)]
def Agr (i : Nat) (st st0 : List Nat) : Prop := st.length = st0.length ∧ ∀ x, x ≠ i → st.getD x 0 = st0.getD x 0
theorem fold_or {α : Type} (i : Nat) (st0 : List Nat) (hi : i < st0.length) (act : List Nat → α → List Nat) (p : α → Bool) (val : α → Nat) : ∀ (Z : List α) (st : List Nat), Agr i st st0 →
  (∀ z ∈ Z, ∀ st', Agr i st' st0 → act st' z = if p z = true then st'.set i (st'.getD i 0 ||| val z) else st') →
  Agr i (Z.foldl act st) st0 ∧ ∀ b, ((Z.foldl act st).getD i 0).testBit b = true ↔ (st.getD i 0).testBit b = true ∨ ∃ z ∈ Z, p z = true ∧ (val z).testBit b = true
 | [], st, h, _ => ⟨h, fun b => by simp⟩
 | z :: Z, st, h, ha => by
  rw [List.foldl_cons]
  have h1 := ha z List.mem_cons_self st h
  have hA : Agr i (act st z) st0 := by
   rw [h1]
   split
   ·refine ⟨by rw [List.length_set]; exact h.1, fun x hx => ?_⟩
    rw [getD_set _ _ _ _ (by rw [h.1]; exact hi), if_neg hx]
    exact h.2 x hx
   ·exact h
  obtain ⟨k1, k2⟩ := fold_or i st0 hi act p val Z (act st z) hA (fun z hz => ha z (List.mem_cons_of_mem _ hz))
  refine ⟨k1, fun b => ?_⟩
  rw [k2 b, h1]
  cases hp : p z with
  | false =>
   rw [if_neg (by decide)]
   constructor
   ·rintro (h | ⟨y, hy, h⟩)
    ·exact .inl h
    ·exact .inr ⟨y, List.mem_cons_of_mem _ hy, h⟩
   ·rintro (h | ⟨y, hy, h⟩)
    ·exact .inl h
    ·rcases List.mem_cons.1 hy with rfl | hy
     ·rw [hp] at h; cases h.1
     ·exact .inr ⟨y, hy, h⟩
  | true =>
   rw [if_pos rfl, getD_set _ _ _ _ (by rw [h.1]; exact hi), if_pos rfl, Nat.testBit_or, Bool.or_eq_true]
   constructor
   ·rintro ((h | h) | ⟨y, hy, h⟩)
    ·exact .inl h
    ·exact .inr ⟨z, List.mem_cons_self, hp, h⟩
    ·exact .inr ⟨y, List.mem_cons_of_mem _ hy, h⟩
   ·rintro (h | ⟨y, hy, h⟩)
    ·exact .inl (.inl h)
    ·rcases List.mem_cons.1 hy with rfl | hy
     ·exact .inl (.inr h.2)
     ·exact .inr ⟨y, hy, h⟩
def okP (n : Int) (o : List Int) : Bool := decide (o.length = 2) && decide (0 ≤ rd o 0 ∧ rd o 0 < rd o 1 ∧ rd o 1 ≤ n - 1)
theorem okP_nat {n : Nat} {o : List Int} (h : okP (n : Int) o = true) : o.length = 2 ∧ rd o 0 = (pj o : Int) ∧ rd o 1 = (pi' o : Int) ∧ pj o < pi' o ∧ pi' o < n := by
 unfold okP at h
 rw [Bool.and_eq_true, decide_eq_true_eq, decide_eq_true_eq] at h
 unfold pj pi'
 omega
def Bnd (n : Nat) (st : List Nat) : Prop := st.length = n ∧ ∀ x, st.getD x 0 < 2 ^ x
theorem bnd_set {n : Nat} {st : List Nat} (h : Bnd n st) {i v : Nat} (hi : i < n) (hv : v < 2 ^ i) : Bnd n (st.set i v) := by
 refine ⟨by rw [List.length_set]; exact h.1, fun x => ?_⟩
 rw [getD_set _ _ _ _ (by rw [h.1]; exact hi)]
 split
 ·rename_i e; rw [e]; exact hv
 ·exact h.2 x
theorem bnd_zero (n : Nat) : Bnd n (List.replicate n 0) := by
 refine ⟨List.length_replicate, fun x => ?_⟩
 rw [List.getD_eq_getElem?_getD, List.getElem?_replicate]
 split <;> exact Nat.two_pow_pos _
def stepS (i : Nat) (st : List Nat) (o : List Int) : List Nat := if pi' o = i then st.set i (st.getD i 0 ||| (2 ^ pj o ||| st.getD (pj o) 0)) else st
def specR (R : List (List Int)) (n : Nat) : List Nat := foldFrom (fun st i => R.foldl (stepS i) st) 0 n (List.replicate n 0)
def stepD (st : List Nat) (o : List Int) : List Nat := st.set (pi' o) (st.getD (pi' o) 0 ||| 2 ^ pj o)
def stepI (i : Nat) (st : List Nat) (j : Nat) : List Nat := st.set i (st.getD i 0 ||| st.getD j 0)
def implR (n : Nat) (D : List Nat) : List Nat := foldFrom (fun st i => (items (st.getD i 0)).foldl (stepI i) st) 0 n D
theorem lt_pow {a b : Nat} (h : a < b) : (2 : Nat) ^ a < 2 ^ b := Nat.pow_lt_pow_right (by decide) h
theorem lt_pow_le {x a b : Nat} (h : x < 2 ^ a) (hab : a ≤ b) : x < 2 ^ b := Nat.lt_of_lt_of_le h (two_pow_le hab)
theorem stepS_bnd {n i : Nat} {st : List Nat} (h : Bnd n st) (hi : i < n) {o : List Int} (ho : okP (n : Int) o = true) : Bnd n (stepS i st o) := by
 obtain ⟨_, _, _, h1, h2⟩ := okP_nat ho
 unfold stepS
 split
 ·rename_i e
  exact bnd_set h hi (Nat.or_lt_two_pow (h.2 i) (Nat.or_lt_two_pow (lt_pow (by omega)) (lt_pow_le (h.2 _) (by omega))))
 ·exact h
theorem stepD_bnd {n : Nat} {st : List Nat} (h : Bnd n st) {o : List Int} (ho : okP (n : Int) o = true) : Bnd n (stepD st o) := by
 obtain ⟨_, _, _, h1, h2⟩ := okP_nat ho
 exact bnd_set h h2 (Nat.or_lt_two_pow (h.2 _) (lt_pow h1))
theorem stepI_bnd {n i j : Nat} {st : List Nat} (h : Bnd n st) (hi : i < n) (hj : j < i) : Bnd n (stepI i st j) :=
 bnd_set h hi (Nat.or_lt_two_pow (h.2 i) (lt_pow_le (h.2 j) (by omega)))
theorem foldS_bnd {n i : Nat} (hi : i < n) : ∀ (R : List (List Int)), (∀ o ∈ R, okP (n : Int) o = true) → ∀ st, Bnd n st → Bnd n (R.foldl (stepS i) st)
 | [], _, _, h => h
 | o :: R, hR, _, h => foldS_bnd hi R (fun o ho => hR o (List.mem_cons_of_mem _ ho)) _ (stepS_bnd h hi (hR o List.mem_cons_self))
theorem foldD_bnd {n : Nat} : ∀ (R : List (List Int)), (∀ o ∈ R, okP (n : Int) o = true) → ∀ st, Bnd n st → Bnd n (R.foldl stepD st)
 | [], _, _, h => h
 | o :: R, hR, _, h => foldD_bnd R (fun o ho => hR o (List.mem_cons_of_mem _ ho)) _ (stepD_bnd h (hR o List.mem_cons_self))
theorem foldI_bnd {n i : Nat} (hi : i < n) : ∀ (J : List Nat), (∀ j ∈ J, j < i) → ∀ st, Bnd n st → Bnd n (J.foldl (stepI i) st)
 | [], _, _, h => h
 | j :: J, hJ, _, h => foldI_bnd hi J (fun j hj => hJ j (List.mem_cons_of_mem _ hj)) _ (stepI_bnd h hi (hJ j List.mem_cons_self))
theorem items_lt {s i : Nat} (hs : s < 2 ^ i) : ∀ j ∈ items s, j < i := fun _ hj => bit_lt hs (mem_items.1 hj).2
def Told (R : List (List Int)) (st : List Nat) (x : Nat) : Prop := ∀ b, (st.getD x 0).testBit b = true ↔ ∃ o ∈ R, pi' o = x ∧ (b = pj o ∨ (st.getD (pj o) 0).testBit b = true)
theorem told_unique {R : List (List Int)} {n : Nat} (hR : ∀ o ∈ R, okP (n : Int) o = true) {s t : List Nat} (hs : s.length = n) (ht : t.length = n) (h1 : ∀ x, x < n → Told R s x) (h2 : ∀ x, x < n → Told R t x) : s = t := by
 have key : ∀ m x, x < m → x < n → s.getD x 0 = t.getD x 0 := by
  intro m
  induction m with
  | zero => intro x hx; omega
  | succ m ih =>
   intro x hx hn
   apply Nat.eq_of_testBit_eq
   intro b
   rw [Bool.eq_iff_iff, h1 x hn b, h2 x hn b]
   constructor
   ·rintro ⟨o, ho, he, hb⟩
    have := okP_nat (hR o ho)
    exact ⟨o, ho, he, by rw [← ih (pj o) (by omega) (by omega)]; exact hb⟩
   ·rintro ⟨o, ho, he, hb⟩
    have := okP_nat (hR o ho)
    exact ⟨o, ho, he, by rw [ih (pj o) (by omega) (by omega)]; exact hb⟩
 apply List.ext_getElem (by omega)
 intro x hx hx'
 have := key (x + 1) x (by omega) (by omega)
 simpa [List.getD_eq_getElem?_getD, List.getElem?_eq_getElem hx, List.getElem?_eq_getElem hx'] using this
theorem told_keep {R : List (List Int)} {n : Nat} (hR : ∀ o ∈ R, okP (n : Int) o = true) {s t : List Nat} {i x : Nat} (hxi : x < i) (h : ∀ y, y ≠ i → t.getD y 0 = s.getD y 0) (hT : Told R s x) : Told R t x := by
 intro b
 rw [h x (by omega), hT b]
 constructor
 ·rintro ⟨o, ho, he, hb⟩
  have := okP_nat (hR o ho)
  exact ⟨o, ho, he, by rw [h (pj o) (by omega)]; exact hb⟩
 ·rintro ⟨o, ho, he, hb⟩
  have := okP_nat (hR o ho)
  exact ⟨o, ho, he, by rw [h (pj o) (by omega)] at hb; exact hb⟩
theorem specR_told {R : List (List Int)} {n : Nat} (hR : ∀ o ∈ R, okP (n : Int) o = true) : (specR R n).length = n ∧ ∀ x, x < n → Told R (specR R n) x := by
 have H := foldFrom_inv (fun st i => R.foldl (stepS i) st) (fun i st => st.length = n ∧ (∀ x, x < i → Told R st x) ∧ ∀ x, i ≤ x → st.getD x 0 = 0) n (fun i st hi hst => by
  obtain ⟨h1, h2, h3⟩ := hst
  obtain ⟨⟨k1, k2⟩, k3⟩ := fold_or i st (by omega) (stepS i) (fun o => decide (pi' o = i)) (fun o => 2 ^ pj o ||| st.getD (pj o) 0) R st ⟨rfl, fun _ _ => rfl⟩ (fun o ho st' hst' => by
   have := okP_nat (hR o ho)
   unfold stepS
   by_cases he : pi' o = i
   ·rw [if_pos he, if_pos (decide_eq_true he), hst'.2 (pj o) (by omega)]
   ·rw [if_neg he, decide_eq_false he, if_neg (by decide)])
  refine ⟨by rw [k1]; exact h1, fun x hx => ?_, fun x hx => ?_⟩
  ·by_cases hxi : x = i
   ·subst hxi
    intro b
    rw [k3 b, h3 x (Nat.le_refl _), Nat.zero_testBit]
    constructor
    ·rintro (h | ⟨o, ho, he, hb⟩)
     ·cases h
     ·have hok := okP_nat (hR o ho)
      rw [decide_eq_true_eq] at he
      rw [Nat.testBit_or, Bool.or_eq_true, Nat.testBit_two_pow, decide_eq_true_eq] at hb
      exact ⟨o, ho, he, hb.imp (fun h => h.symm) (fun h => by rw [k2 (pj o) (by omega)]; exact h)⟩
    ·rintro ⟨o, ho, he, hb⟩
     have hok := okP_nat (hR o ho)
     refine .inr ⟨o, ho, decide_eq_true he, ?_⟩
     rw [Nat.testBit_or, Bool.or_eq_true, Nat.testBit_two_pow, decide_eq_true_eq]
     exact hb.imp (fun h => h.symm) (fun h => by rw [k2 (pj o) (by omega)] at h; exact h)
   ·exact told_keep hR (by omega) k2 (h2 x (by omega))
  ·rw [k2 x (by omega)]
   exact h3 x (by omega)) 0 (List.replicate n 0) (Nat.zero_le _) ⟨List.length_replicate, fun x hx => by omega, fun x _ => by
   rw [List.getD_eq_getElem?_getD, List.getElem?_replicate]
   split <;> rfl⟩
 exact ⟨H.1, H.2.1⟩
theorem foldD_bit {n : Nat} : ∀ (R : List (List Int)), (∀ o ∈ R, okP (n : Int) o = true) → ∀ (st : List Nat), st.length = n → ∀ x b, ((R.foldl stepD st).getD x 0).testBit b = true ↔ (st.getD x 0).testBit b = true ∨ ∃ o ∈ R, pi' o = x ∧ b = pj o
 | [], _, st, _, x, b => by simp
 | o :: R, hR, st, hl, x, b => by
  have hok := okP_nat (hR o List.mem_cons_self)
  rw [List.foldl_cons, foldD_bit R (fun o ho => hR o (List.mem_cons_of_mem _ ho)) (stepD st o) (by unfold stepD; rw [List.length_set]; exact hl) x b]
  unfold stepD
  rw [getD_set _ _ _ _ (by omega)]
  constructor
  ·rintro (h | ⟨y, hy, h⟩)
   ·split at h
    ·rename_i e
     rw [Nat.testBit_or, Bool.or_eq_true, Nat.testBit_two_pow, decide_eq_true_eq] at h
     rcases h with h | h
     ·exact .inl (by rw [e]; exact h)
     ·exact .inr ⟨o, List.mem_cons_self, e.symm, h.symm⟩
    ·exact .inl h
   ·exact .inr ⟨y, List.mem_cons_of_mem _ hy, h⟩
  ·rintro (h | ⟨y, hy, he, hb⟩)
   ·refine .inl ?_
    split
    ·rename_i e
     rw [Nat.testBit_or, Bool.or_eq_true]
     exact .inl (by rw [← e]; exact h)
    ·exact h
   ·rcases List.mem_cons.1 hy with rfl | hy
    ·refine .inl ?_
     rw [if_pos he.symm, Nat.testBit_or, Bool.or_eq_true, Nat.testBit_two_pow, decide_eq_true_eq]
     exact .inr hb.symm
    ·exact .inr ⟨y, hy, he, hb⟩
theorem implR_told {R : List (List Int)} {n : Nat} (hn : n ≤ 10) (hR : ∀ o ∈ R, okP (n : Int) o = true) : (implR n (R.foldl stepD (List.replicate n 0))).length = n ∧ ∀ x, x < n → Told R (implR n (R.foldl stepD (List.replicate n 0))) x := by
 have hD := foldD_bnd R hR _ (bnd_zero n)
 have hbit : ∀ x b, ((R.foldl stepD (List.replicate n 0)).getD x 0).testBit b = true ↔ ∃ o ∈ R, pi' o = x ∧ b = pj o := fun x b => by
  rw [foldD_bit R hR _ List.length_replicate x b]
  constructor
  ·rintro (h | h)
   ·rw [List.getD_eq_getElem?_getD, List.getElem?_replicate] at h
    split at h <;> simp at h
   ·exact h
  ·exact .inr
 obtain ⟨D, hDe⟩ : ∃ D, R.foldl stepD (List.replicate n 0) = D := ⟨_, rfl⟩
 rw [hDe] at hD hbit ⊢
 have H := foldFrom_inv (fun st i => (items (st.getD i 0)).foldl (stepI i) st) (fun i st => st.length = n ∧ (∀ x, x < i → Told R st x) ∧ ∀ x, i ≤ x → st.getD x 0 = D.getD x 0) n (fun i st hi hst => by
  obtain ⟨h1, h2, h3⟩ := hst
  have hDi : D.getD i 0 < 2 ^ i := hD.2 i
  have h3i := h3 i (Nat.le_refl _)
  have hits : ∀ j ∈ items (st.getD i 0), j < i := by rw [h3i]; exact items_lt hDi
  obtain ⟨⟨k1, k2⟩, k3⟩ := fold_or i st (by omega) (stepI i) (fun _ => true) (fun j => st.getD j 0) (items (st.getD i 0)) st ⟨rfl, fun _ _ => rfl⟩ (fun j hj st' hst' => by
   have := hits j hj
   unfold stepI
   rw [if_pos rfl, hst'.2 j (by omega)])
  obtain ⟨F, hF⟩ : ∃ F, (items (st.getD i 0)).foldl (stepI i) st = F := ⟨_, rfl⟩
  rw [hF] at k1 k2 k3
  show ((items (st.getD i 0)).foldl (stepI i) st).length = n ∧ (∀ x, x < i + 1 → Told R ((items (st.getD i 0)).foldl (stepI i) st) x) ∧ ∀ x, i + 1 ≤ x → ((items (st.getD i 0)).foldl (stepI i) st).getD x 0 = D.getD x 0
  rw [hF]
  clear hF
  refine ⟨by rw [k1]; exact h1, fun x hx => ?_, fun x hx => ?_⟩
  ·by_cases hxi : x = i
   ·subst hxi
    intro b
    rw [k3 b, h3i, hbit x b]
    constructor
    ·rintro (⟨o, ho, he, hb⟩ | ⟨j, hj, _, hb⟩)
     ·exact ⟨o, ho, he, .inl hb⟩
     ·have hj2 := (mem_items.1 hj).2
      rw [hbit x j] at hj2
      obtain ⟨o, ho, he, rfl⟩ := hj2
      have hok := okP_nat (hR o ho)
      exact ⟨o, ho, he, .inr (by rw [k2 (pj o) (by omega)]; exact hb)⟩
    ·rintro ⟨o, ho, he, hb⟩
     have hok := okP_nat (hR o ho)
     rcases hb with hb | hb
     ·exact .inl ⟨o, ho, he, hb⟩
     ·refine .inr ⟨pj o, mem_items.2 ⟨by omega, ?_⟩, rfl, by rw [k2 (pj o) (by omega)] at hb; exact hb⟩
      rw [hbit x (pj o)]
      exact ⟨o, ho, he, rfl⟩
   ·exact told_keep hR (by omega) k2 (h2 x (by omega))
  ·rw [k2 x (by omega)]
   exact h3 x (by omega)) 0 D (Nat.zero_le _) ⟨hD.1, fun x hx => by omega, fun _ _ => rfl⟩
 exact ⟨H.1, H.2.1⟩
theorem both_from {R : List (List Int)} {n : Nat} (hn : n ≤ 10) (hR : ∀ o ∈ R, okP (n : Int) o = true) : implR n (R.foldl stepD (List.replicate n 0)) = specR R n :=
 told_unique hR (implR_told hn hR).1 (specR_told hR).1 (implR_told hn hR).2 (specR_told hR).2
end Go.Proofs.YtkadihmhaoghfaaDoor.B

namespace Go.Proofs.YtkadihmhaoghfaaDoor.B
open Go.Proofs.YtkadihmhaoghfaaDoor.M
def tog (P : List Nat) (s e : Nat) : Nat := if idl P (s ^^^ 2 ^ e) then s ^^^ 2 ^ e else s
theorem tog_lt {P : List Nat} {s e : Nat} (hs : s < 2 ^ P.length) (he : e < P.length) : tog P s e < 2 ^ P.length := by
 unfold tog
 split
 ·exact Nat.xor_lt_two_pow hs (Nat.pow_lt_pow_right (by decide) he)
 ·exact hs
theorem xor_bit (s e j : Nat) : (s ^^^ 2 ^ e).testBit j = if e = j then !s.testBit j else s.testBit j := by
 rw [Nat.testBit_xor, Nat.testBit_two_pow]
 by_cases h : e = j
 ·simp [h]
 ·simp [h]
theorem tog_idl {P : List Nat} {s e : Nat} (hs : idl P s = true) : idl P (tog P s e) = true := by
 unfold tog
 split
 ·assumption
 ·exact hs
def rw_ (P : List Nat) (s : Nat) : Nat := dn P (bm P (sd (2 ^ P.length - 1) s))
def bk (P : List Nat) (s : Nat) : Nat := foldFrom (fun o i => if (tp P s).testBit i then o else (if P.getD i 0 &&& tp P s = 0 then o ||| 2 ^ i else o)) 0 P.length 0
theorem bk_bit (P : List Nat) (s j : Nat) : (bk P s).testBit j = true ↔ j < P.length ∧ (tp P s).testBit j = false ∧ ∀ i, (P.getD j 0).testBit i = true → (tp P s).testBit i = false := by
 have H := foldFrom_inv (fun o i => if (tp P s).testBit i then o else (if P.getD i 0 &&& tp P s = 0 then o ||| 2 ^ i else o)) (fun m o => o.testBit j = true ↔ j < m ∧ (tp P s).testBit j = false ∧ P.getD j 0 &&& tp P s = 0) P.length ?_ 0 0 (by omega) ?_
 ·rw [← and_eq_zero]; exact H
 ·intro i o hi hQ
  cases hb : (tp P s).testBit i with
  | false =>
   by_cases h0 : P.getD i 0 &&& tp P s = 0
   ·simp only [h0, Bool.false_eq_true, if_true, if_false]
    rw [Nat.testBit_or, Bool.or_eq_true, hQ, Nat.testBit_two_pow, decide_eq_true_eq]
    constructor
    ·rintro (⟨h1, h2⟩ | rfl)
     ·exact ⟨by omega, h2⟩
     ·exact ⟨by omega, hb, h0⟩
    ·rintro ⟨h1, h2⟩
     rcases Nat.lt_or_ge j i with h4 | h4
     ·exact .inl ⟨h4, h2⟩
     ·exact .inr (by omega)
   ·simp only [h0, Bool.false_eq_true, if_false]
    rw [hQ]
    constructor
    ·rintro ⟨h1, h2⟩; exact ⟨by omega, h2⟩
    ·rintro ⟨h1, h2, h3⟩
     rcases Nat.lt_or_ge j i with h4 | h4
     ·exact ⟨h4, h2, h3⟩
     ·rw [show j = i by omega] at h3; exact absurd h3 h0
  | true =>
   simp only [if_true]
   rw [hQ]
   constructor
   ·rintro ⟨h1, h2⟩; exact ⟨by omega, h2⟩
   ·rintro ⟨h1, h2, h3⟩
    rcases Nat.lt_or_ge j i with h4 | h4
    ·exact ⟨h4, h2, h3⟩
    ·rw [show j = i by omega, hb] at h2; cases h2
 ·simp
theorem bk_lt (P : List Nat) (s : Nat) : bk P s < 2 ^ P.length := lt_of_bits (fun j hj => ((bk_bit P s j).1 hj).1)
section
variable {l : List Int} {P : List Nat} (hP : Good l P)
include hP
theorem below_lt {i j : Nat} (h : (P.getD i 0).testBit j = true) : j < i ∧ i < P.length := by
 rcases Nat.lt_or_ge i P.length with h1 | h1
 ·exact ⟨bit_lt (hP.lt i h1) h, h1⟩
 ·rw [List.getD_eq_getElem?_getD, List.getElem?_eq_none h1] at h
  simp at h
theorem below_trans {i j k : Nat} (h : (P.getD i 0).testBit j = true) (h2 : (P.getD j 0).testBit k = true) : (P.getD i 0).testBit k = true := by
 have := hP.tr i (below_lt hP h).2 j h
 exact sd_eq_zero.1 this k h2
theorem idl_closed {s : Nat} (h : idl P s = true) {i j : Nat} (hs : s.testBit i = true) (hj : (P.getD i 0).testBit j = true) : s.testBit j = true :=
 (idl_iff P s).1 h i (below_lt hP hj).2 hs j hj
theorem dn_idl (s : Nat) : idl P (dn P s) = true := by
 rw [idl_iff]
 intro i hi hs j hj
 rw [dn_bit] at hs ⊢
 rcases hs with h | ⟨i', h1, h2, h3⟩
 ·exact .inr ⟨i, hi, h, hj⟩
 ·exact .inr ⟨i', h1, h2, below_trans hP h3 hj⟩
theorem dn_lt {s : Nat} (hs : s < 2 ^ P.length) : dn P s < 2 ^ P.length := by
 apply lt_of_bits
 intro j hj
 rw [dn_bit] at hj
 rcases hj with h | ⟨i, h1, h2, h3⟩
 ·exact bit_lt hs h
 ·have := below_lt hP h3; omega
omit hP in
theorem tp_lt {s : Nat} (hs : s < 2 ^ P.length) : tp P s < 2 ^ P.length := lt_of_bits (fun j hj => bit_lt hs ((tp_bit P s j).1 hj).1)
omit hP in
theorem bm_lt (s : Nat) : bm P s < 2 ^ P.length := lt_of_bits (fun j hj => ((bm_bit P s j).1 hj).1)
theorem rw_lt (s : Nat) : rw_ P s < 2 ^ P.length := dn_lt hP (bm_lt _)
theorem rw_idl (s : Nat) : idl P (rw_ P s) = true := dn_idl hP _
theorem bk_idl (s : Nat) : idl P (bk P s) = true := by
 rw [idl_iff]
 intro i hi hs j hj
 rw [bk_bit] at hs ⊢
 exact ⟨by have := below_lt hP hj; omega, hs.2.2 j hj, fun i' hi' => hs.2.2 i' (below_trans hP hj hi')⟩
omit hP in
theorem all_bit {n j : Nat} {s : Nat} : (sd (2 ^ n - 1) s).testBit j = true ↔ j < n ∧ s.testBit j = false := by
 rw [sd_bit, Nat.testBit_two_pow_sub_one, Bool.and_eq_true, decide_eq_true_eq, Bool.not_eq_true']
theorem least_below {s : Nat} {j : Nat} (hj : j < P.length) (hs : s.testBit j = false) : ∃ i, (bm P (sd (2 ^ P.length - 1) s)).testBit i = true ∧ (i = j ∨ (P.getD j 0).testBit i = true) := by
 induction j using Nat.strongRecOn with
 | _ j ih =>
  by_cases h : ∃ i, (P.getD j 0).testBit i = true ∧ s.testBit i = false
  ·obtain ⟨i, h1, h2⟩ := h
   have hl := below_lt hP h1
   obtain ⟨i', h3, h4⟩ := ih i hl.1 (by omega) h2
   refine ⟨i', h3, .inr ?_⟩
   rcases h4 with rfl | h4
   ·exact h1
   ·exact below_trans hP h1 h4
  ·refine ⟨j, ?_, .inl rfl⟩
   rw [bm_bit, all_bit, and_eq_zero]
   refine ⟨hj, ⟨hj, hs⟩, fun i hi => ?_⟩
   cases hc : (sd (2 ^ P.length - 1) s).testBit i with
   | false => rfl
   | true => exact absurd ⟨i, hi, (all_bit.1 hc).2⟩ h
theorem greatest_above {s : Nat} (hsl : s < 2 ^ P.length) {j : Nat} (hs : s.testBit j = true) : ∃ i, (tp P s).testBit i = true ∧ (i = j ∨ (P.getD i 0).testBit j = true) := by
 obtain ⟨d, hd⟩ : ∃ d, P.length - j = d := ⟨_, rfl⟩
 induction d using Nat.strongRecOn generalizing j with
 | _ d ih =>
  have hjn := bit_lt hsl hs
  by_cases h : ∃ i, i < P.length ∧ s.testBit i = true ∧ (P.getD i 0).testBit j = true
  ·obtain ⟨i, h1, h2, h3⟩ := h
   have hl := below_lt hP h3
   obtain ⟨i', h4, h5⟩ := ih (P.length - i) (by omega) h2 rfl
   refine ⟨i', h4, .inr ?_⟩
   rcases h5 with rfl | h5
   ·exact h3
   ·exact below_trans hP h5 h3
  ·refine ⟨j, ?_, .inl rfl⟩
   rw [tp_bit]
   refine ⟨hs, fun i hi hsi => ?_⟩
   cases hc : (P.getD i 0).testBit j with
   | false => rfl
   | true => exact absurd ⟨i, hi, hsi, hc⟩ h
theorem tp_rw {s : Nat} (j : Nat) : (tp P (rw_ P s)).testBit j = (bm P (sd (2 ^ P.length - 1) s)).testBit j := by
 rw [Bool.eq_iff_iff, tp_bit]
 unfold rw_
 constructor
 ·rintro ⟨h1, h2⟩
  rw [dn_bit] at h1
  rcases h1 with h1 | ⟨i, h3, h4, h5⟩
  ·exact h1
  ·have := h2 i h3 (by rw [dn_bit]; exact .inl h4)
   rw [h5] at this; cases this
 ·intro h
  refine ⟨by rw [dn_bit]; exact .inl h, fun i hi hs => ?_⟩
  cases hc : (P.getD i 0).testBit j with
  | false => rfl
  | true =>
   exfalso
   have hb := (bm_bit _ _ _).1 h
   have key : ∀ i', (bm P (sd (2 ^ P.length - 1) s)).testBit i' = true → (P.getD i' 0).testBit j = true → False := fun i' h1 h2 => by
    have h3 := (bm_bit _ _ _).1 h1
    have := and_eq_zero.1 h3.2.2 j h2
    rw [hb.2.1] at this; cases this
   rw [dn_bit] at hs
   rcases hs with h1 | ⟨i', h3, h4, h5⟩
   ·exact key i h1 hc
   ·exact key i' h4 (below_trans hP h5 hc)
theorem bk_rw {s : Nat} (hsl : s < 2 ^ P.length) (hs : idl P s = true) : bk P (rw_ P s) = s := by
 apply Nat.eq_of_testBit_eq
 intro j
 rw [Bool.eq_iff_iff, bk_bit]
 constructor
 ·rintro ⟨h1, h2, h3⟩
  cases hc : s.testBit j with
  | true => rfl
  | false =>
   obtain ⟨i, h4, h5⟩ := least_below hP h1 hc
   rw [← tp_rw hP] at h4
   rcases h5 with rfl | h5
   ·rw [h4] at h2; cases h2
   ·rw [h3 i h5] at h4; cases h4
 ·intro h
  refine ⟨bit_lt hsl h, ?_, fun i hi => ?_⟩
  ·rw [tp_rw hP]
   cases hc : (bm P (sd (2 ^ P.length - 1) s)).testBit j with
   | false => rfl
   | true => have := (all_bit.1 ((bm_bit _ _ _).1 hc).2.1).2; rw [h] at this; cases this
  ·rw [tp_rw hP]
   cases hc : (bm P (sd (2 ^ P.length - 1) s)).testBit i with
   | false => rfl
   | true => have := (all_bit.1 ((bm_bit _ _ _).1 hc).2.1).2; rw [idl_closed hP hs h hi] at this; cases this
theorem rw_bk {s : Nat} (hsl : s < 2 ^ P.length) (hs : idl P s = true) : rw_ P (bk P s) = s := by
 apply Nat.eq_of_testBit_eq
 intro j
 have hbm : ∀ i, (bm P (sd (2 ^ P.length - 1) (bk P s))).testBit i = true ↔ (tp P s).testBit i = true := by
  intro i
  rw [bm_bit, all_bit, and_eq_zero]
  constructor
  ·rintro ⟨h1, ⟨_, h2⟩, h3⟩
   cases hc : (tp P s).testBit i with
   | true => rfl
   | false =>
    exfalso
    have : ¬ ((bk P s).testBit i = true) := by rw [h2]; decide
    rw [bk_bit] at this
    apply this
    refine ⟨h1, hc, fun i' hi' => ?_⟩
    have h4 := h3 i' hi'
    have h5 : (bk P s).testBit i' = true := by
     cases hx : (bk P s).testBit i' with
     | true => rfl
     | false =>
      have : (sd (2 ^ P.length - 1) (bk P s)).testBit i' = true := all_bit.2 ⟨by have := below_lt hP hi'; omega, hx⟩
      rw [h4] at this; cases this
    exact ((bk_bit _ _ _).1 h5).2.1
  ·intro h
   have h1 : i < P.length := bit_lt (tp_lt hsl) h
   have hnb : (bk P s).testBit i = false := by
    cases hx : (bk P s).testBit i with
    | false => rfl
    | true => have := ((bk_bit _ _ _).1 hx).2.1; rw [h] at this; cases this
   refine ⟨h1, ⟨h1, hnb⟩, fun i' hi' => ?_⟩
   have hl := below_lt hP hi'
   have htop := (tp_bit _ _ _).1 h
   have hin : (bk P s).testBit i' = true := by
    rw [bk_bit]
    refine ⟨by omega, ?_, fun i2 h2 => ?_⟩
    ·cases hx : (tp P s).testBit i' with
     | false => rfl
     | true => have := ((tp_bit _ _ _).1 hx).2 i h1 htop.1; rw [hi'] at this; cases this
    ·cases hx : (tp P s).testBit i2 with
     | false => rfl
     | true => have := ((tp_bit _ _ _).1 hx).2 i h1 htop.1; rw [below_trans hP hi' h2] at this; cases this
   rw [sd_bit, hin]; simp
 unfold rw_
 rw [Bool.eq_iff_iff, dn_bit]
 constructor
 ·rintro (h | ⟨i, h1, h2, h3⟩)
  ·exact ((tp_bit _ _ _).1 ((hbm j).1 h)).1
  ·exact idl_closed hP hs ((tp_bit _ _ _).1 ((hbm i).1 h2)).1 h3
 ·intro h
  obtain ⟨i, h1, h2⟩ := greatest_above hP hsl h
  rcases h2 with rfl | h2
  ·exact .inl ((hbm i).2 h1)
  ·exact .inr ⟨i, bit_lt (tp_lt hsl) h1, (hbm i).2 h1, h2⟩
theorem toggles_bk {s : Nat} (hsl : s < 2 ^ P.length) (hs : idl P s = true) : foldFrom (tog P) 0 P.length s = bk P s := by
 have H := foldFrom_inv (tog P) (fun m o => o < 2 ^ P.length ∧ idl P o = true ∧ ∀ j, o.testBit j = if j < m then (bk P s).testBit j else s.testBit j) P.length ?_ 0 s (by omega) ⟨hsl, hs, fun j => by rw [if_neg (by omega)]⟩
 ·obtain ⟨h1, _, h3⟩ := H
  apply Nat.eq_of_testBit_eq
  intro j
  rw [h3]
  split
  ·rfl
  ·rename_i hj
   rw [Nat.testBit_lt_two_pow (Nat.lt_of_lt_of_le hsl (two_pow_le (by omega))), Nat.testBit_lt_two_pow (Nat.lt_of_lt_of_le (bk_lt P s) (two_pow_le (by omega)))]
 ·rintro m o hm ⟨hol, hoi, hob⟩
  refine ⟨tog_lt hol hm, tog_idl hoi, fun j => ?_⟩
  have hom : o.testBit m = s.testBit m := by rw [hob, if_neg (by omega)]
  -- what the toggle asks is just what the answer has
  have key : idl P (o ^^^ 2 ^ m) = true ↔ (bk P s).testBit m = !s.testBit m := by
   cases hsm : s.testBit m with
   | true =>
    rw [hsm] at hom
    rw [idl_iff]
    constructor
    ·intro h
     cases hx : (bk P s).testBit m with
     | false => rfl
     | true =>
      exfalso
      have hb := (bk_bit _ _ _).1 hx
      obtain ⟨i, h1, h2⟩ := greatest_above hP hsl hsm
      rcases h2 with rfl | h2
      ·rw [hb.2.1] at h1; cases h1
      ·have hl := below_lt hP h2
       have h3 := h i hl.2 (by rw [xor_bit, if_neg (by omega), hob, if_neg (by omega)]; exact ((tp_bit _ _ _).1 h1).1) m h2
       rw [xor_bit, if_pos rfl, hom] at h3; cases h3
    ·intro h i hi hsi j hj
     simp only [Bool.not_true] at h
     rw [xor_bit] at hsi ⊢
     by_cases hmi : m = i
     ·subst hmi; rw [if_pos rfl, hom] at hsi; cases hsi
     ·rw [if_neg hmi] at hsi
      have hoj := idl_closed hP hoi hsi hj
      by_cases hmj : m = j
      ·subst hmj
       exfalso
       have hl := below_lt hP hj
       have hsi2 : s.testBit i = true := by rw [hob, if_neg (by omega)] at hsi; exact hsi
       have : (bk P s).testBit m = true := by
        rw [bk_bit]
        refine ⟨hm, ?_, fun i' hi' => ?_⟩
        ·cases hx : (tp P s).testBit m with
         | false => rfl
         | true => have := ((tp_bit _ _ _).1 hx).2 i hi hsi2; rw [hj] at this; cases this
        ·cases hx : (tp P s).testBit i' with
         | false => rfl
         | true => have := ((tp_bit _ _ _).1 hx).2 i hi hsi2; rw [below_trans hP hj hi'] at this; cases this
       rw [this] at h; cases h
      ·rw [if_neg hmj]; exact hoj
   | false =>
    rw [hsm] at hom
    rw [idl_iff]
    have hbelow : ∀ j, (P.getD m 0).testBit j = true → (o.testBit j = (bk P s).testBit j) := fun j hj => by
     have := below_lt hP hj
     rw [hob, if_pos (by omega)]
    constructor
    ·intro h
     show (bk P s).testBit m = true
     rw [bk_bit]
     have hin : ∀ j, (P.getD m 0).testBit j = true → (bk P s).testBit j = true := fun j hj => by
      have h2 := h m hm (by rw [xor_bit, if_pos rfl, hom]; rfl) j hj
      have hl := below_lt hP hj
      rw [xor_bit, if_neg (by omega)] at h2
      rw [← hbelow j hj]; exact h2
     refine ⟨hm, ?_, fun i' hi' => ((bk_bit _ _ _).1 (hin i' hi')).2.1⟩
     cases hx : (tp P s).testBit m with
     | false => rfl
     | true => have := ((tp_bit _ _ _).1 hx).1; rw [hsm] at this; cases this
    ·intro h i hi hsi j hj
     simp only [Bool.not_false] at h
     have hl := below_lt hP hj
     rw [xor_bit] at hsi ⊢
     by_cases hmi : m = i
     ·subst hmi
      rw [if_neg (by omega), hbelow j hj]
      exact idl_closed hP (bk_idl hP s) h hj
     ·rw [if_neg hmi] at hsi
      have hoj := idl_closed hP hoi hsi hj
      by_cases hmj : m = j
      ·subst hmj; rw [hom] at hoj; cases hoj
      ·rw [if_neg hmj]; exact hoj
  unfold tog
  by_cases hk : idl P (o ^^^ 2 ^ m) = true
  ·rw [if_pos hk, xor_bit]
   have hk2 := key.1 hk
   by_cases hmj : m = j
   ·subst hmj
    rw [if_pos rfl, if_pos (by omega), hom, hk2]
   ·rw [if_neg hmj, hob]
    by_cases h : j < m
    ·rw [if_pos h, if_pos (by omega)]
    ·rw [if_neg h, if_neg (by omega)]
  ·rw [if_neg hk, hob]
   by_cases hmj : m = j
   ·subst hmj
    rw [if_neg (by omega), if_pos (by omega)]
    cases h1 : s.testBit m <;> cases h2 : (bk P s).testBit m <;> first | rfl | (exfalso; apply hk; rw [key, h1, h2]; rfl)
   ·by_cases h : j < m
    ·rw [if_pos h, if_pos (by omega)]
    ·rw [if_neg h, if_neg (by omega)]
end
end Go.Proofs.YtkadihmhaoghfaaDoor.B

namespace Go.Proofs.YtkadihmhaoghfaaDoor.B
open Go.RowKit Go.Proofs.YtkadihmhaoghfaaDoor.M Go.Proofs.YtkadihmhaoghfaaDoorW.PrintWords Go.Proofs.YtkadihmhaoghfaaDoorW.PrintLast Go.Proofs.YtkadihmhaoghfaaDoorW.PrintMore
attribute [local irreducible] Go.bits shl shr sd
theorem getD_mem {o : List Int} {i : Nat} (h : i < o.length) : o.getD i 0 ∈ o := by
 rw [List.getD_eq_getElem?_getD, List.getElem?_eq_getElem h, Option.getD_some]; exact List.getElem_mem h
def rangeB (n : Int) (o : List Int) : Bool := o.all (fun e => decide (0 ≤ e ∧ e ≤ n))
def wordB (P : List Nat) (m : Int) (o : List Int) : Bool := decide ((o.length : Int) ≤ m) && rangeB ((P.length : Int) - 1) o
def togs (P : List Nat) (s : Nat) (o : List Int) : Nat := o.foldl (fun s e => tog P s e.toNat) s
theorem range_at {n : Nat} {o : List Int} (hr : rangeB ((n : Int) - 1) o = true) {i : Nat} (hi : i < o.length) : ∃ e : Nat, o.getD i 0 = (e : Int) ∧ e < n := by
 unfold rangeB at hr
 rw [List.all_eq_true] at hr
 have := hr _ (getD_mem hi)
 rw [decide_eq_true_eq] at this
 exact ⟨(o.getD i 0).toNat, by omega, by omega⟩
theorem range_mem {n : Nat} {o : List Int} (hr : rangeB ((n : Int) - 1) o = true) {e : Int} (he : e ∈ o) : e.toNat < n := by
 unfold rangeB at hr
 rw [List.all_eq_true] at hr
 have := hr _ he
 rw [decide_eq_true_eq] at this
 omega
theorem togs_ok {P : List Nat} : ∀ (o : List Int) (s : Nat), (∀ e ∈ o, e.toNat < P.length) → s < 2 ^ P.length → togs P s o < 2 ^ P.length ∧ (idl P s = true → idl P (togs P s o) = true) := by
 intro o
 induction o with
 | nil => intro s _ hs; exact ⟨hs, fun h => h⟩
 | cons e es ih =>
  intro s h hs
  have h1 := ih (tog P s e.toNat) (fun x hx => h x (List.mem_cons_of_mem _ hx)) (tog_lt hs (h e (List.mem_cons_self ..)))
  exact ⟨h1.1, fun hi => h1.2 (tog_idl hi)⟩
def idx (p : Int → Bool) : Nat → List Int → Int
 | _, [] => -1
 | i, e :: es => if p e = true then (i : Int) else idx p (i + 1) es
theorem idx_any (p : Int → Bool) : ∀ (o : List Int) (i : Nat), decide (idx p i o ≥ 0) = o.any p := by
 intro o
 induction o with
 | nil => intro i; rfl
 | cons e es ih =>
  intro i
  unfold idx
  rw [List.any_cons]
  cases h : p e with
  | true => rw [if_pos rfl, Bool.true_or]; exact decide_eq_true (by omega)
  | false => rw [if_neg (by decide), Bool.false_or]; exact ih _
theorem range_any (n : Int) (o : List Int) : (!o.any (fun e => !decide (0 ≤ e ∧ e ≤ n))) = rangeB n o := by
 unfold rangeB
 rw [List.all_eq_not_any_not]
end Go.Proofs.YtkadihmhaoghfaaDoor.B

namespace Go.Proofs.YtkadihmhaoghfaaDoor.B
open Go.RowKit Go.Proofs.YtkadihmhaoghfaaDoor.M Go.Proofs.YtkadihmhaoghfaaDoorW.PrintWords Go.Proofs.YtkadihmhaoghfaaDoorW.PrintLast Go.Proofs.YtkadihmhaoghfaaDoorW.PrintMore
attribute [local irreducible] Go.bits shl shr sd
theorem l1All_ev (o : List Int) (ho : o.length ≤ 1048576) (n : Int) : Ev (fun k => spec_l1All.f k o 0 n) (rangeB n o) := by
 have H : ∀ (i : Nat) (_ : Unit), i ≤ o.length → True → Ev (fun k => spec_l1All.l0 k 0 n o (o.length : Int) (i : Int)) (rangeB n (o.drop i)) := by
  refine ev_down (fun k (_ : Unit) i => spec_l1All.l0 k 0 n o (o.length : Int) i) (fun i _ => rangeB n (o.drop i)) o.length (fun _ _ => True) ?_ ?_
  ·intro _ _
   rw [List.drop_length]
   exact ev_step (Ev.now _) (fun k => by simp only [spec_l1All.l0]; rw [if_neg (by omega)]; rfl)
  ·intro i _ hi _ ih
   have c1 : (i : Int) < (o.length : Int) := by omega
   have c2 : 0 ≤ (i : Int) := by omega
   have hw : wrap64 ((i : Int) + 1) = (i : Int) + 1 := wrap64_id (by omega) (by omega)
   rw [drop_step o 0 hi]
   unfold rangeB
   rw [List.all_cons]
   by_cases hr : 0 ≤ o.getD i 0 ∧ o.getD i 0 ≤ n
   ·rw [decide_eq_true hr, Bool.true_and]
    exact ev_step (ih () trivial) (fun k => by simp only [spec_l1All.l0]; rw [if_pos c1, if_pos c2, if_pos c1, rd_nat, l1In_is, decide_eq_true hr, Option.bind_some, if_pos rfl, hw])
   ·rw [decide_eq_false hr, Bool.false_and]
    exact ev_step (Ev.now _) (fun k => by simp only [spec_l1All.l0]; rw [if_pos c1, if_pos c2, if_pos c1, rd_nat, l1In_is, decide_eq_false hr, Option.bind_some, if_neg (by decide)])
 unfold spec_l1All.f
 have := H 0 () (by omega) trivial
 rwa [List.drop_zero] at this
end Go.Proofs.YtkadihmhaoghfaaDoor.B

namespace Go.Proofs.YtkadihmhaoghfaaDoor.B
open Go.RowKit Go.Proofs.YtkadihmhaoghfaaDoor.M Go.Proofs.YtkadihmhaoghfaaDoorW.PrintWords Go.Proofs.YtkadihmhaoghfaaDoorW.PrintLast Go.Proofs.YtkadihmhaoghfaaDoorW.PrintMore
theorem rdL_at (pre : List (List Int)) (o : List Int) (t : List (List Int)) : rd_L1 (pre ++ o :: t) (pre.length : Int) = o := by
 unfold rd_L1
 rw [Int.toNat_natCast, List.getD_eq_getElem?_getD, List.getElem?_append_right (Nat.le_refl _), Nat.sub_self]
 rfl
end Go.Proofs.YtkadihmhaoghfaaDoor.B

namespace Go.Proofs.YtkadihmhaoghfaaDoor.B
open Go.RowKit Go.Proofs.YtkadihmhaoghfaaDoor.M Go.Proofs.YtkadihmhaoghfaaDoorW.PrintWords Go.Proofs.YtkadihmhaoghfaaDoorW.PrintLast Go.Proofs.YtkadihmhaoghfaaDoorW.PrintMore
attribute [local irreducible] Go.bits shl shr sd
theorem cast_set (st : List Nat) (i v : Nat) : (cast st).set i (v : Int) = cast (st.set i v) := by unfold cast; rw [List.map_set]
theorem castL (st : List Nat) : (cast st).length = st.length := by unfold cast; rw [List.length_map]
section
variable {n : Nat} (h1 : 1 ≤ n) (hn : n ≤ 10) {R : List (List Int)} (hR1 : R.length ≤ 100)
include h1 hn hR1
set_option linter.unusedSectionVars false
theorem poFrom_l1 {i : Nat} (hi : i < n) (fin : List Nat → List Int) (hnext : ∀ st, Bnd n st → Ev (fun k => spec_poFrom.l0 k (n : Int) R ((i : Int) + 1) (cast st)) (fin st)) :
  ∀ (S pre : List (List Int)) (st : List Nat), pre ++ S = R → (∀ o ∈ S, okP (n : Int) o = true) → Bnd n st → Ev (fun k => spec_poFrom.l1 k (n : Int) R (i : Int) R (R.length : Int) (pre.length : Int) (cast st)) (fin (S.foldl (stepS i) st)) := by
 intro S
 induction S with
 | nil =>
  intro pre st h _ hb
  rw [List.append_nil] at h
  have hw : wrap64 ((i : Int) + 1) = (i : Int) + 1 := wrap64_id (by omega) (by omega)
  exact ev_step (hnext st hb) (fun k => by simp only [spec_poFrom.l1]; rw [if_neg (by rw [← h]; omega), hw])
 | cons o S ihS =>
  intro pre st h hok hb
  obtain ⟨g1, g2, g3, g4, g5⟩ := okP_nat (hok o List.mem_cons_self)
  have hl : R.length = pre.length + (S.length + 1) := by rw [← h, List.length_append, List.length_cons]
  have c1 : (pre.length : Int) < (R.length : Int) := by omega
  have c0 : 0 ≤ (pre.length : Int) := by omega
  have hw : wrap64 ((pre.length : Int) + 1) = (pre.length : Int) + 1 := wrap64_id (by omega) (by omega)
  have hr : rd_L1 R (pre.length : Int) = o := by rw [← h]; exact rdL_at pre o S
  have ih := ihS (pre ++ [o]) (stepS i st o) (by rw [List.append_assoc]; exact h) (fun o ho => hok o (List.mem_cons_of_mem _ ho)) (stepS_bnd hb hi (hok o List.mem_cons_self))
  rw [List.length_append, List.length_singleton, Int.natCast_add, show ((1 : Nat) : Int) = 1 from rfl] at ih
  rw [List.foldl_cons]
  have c2 : 1 < (o.length : Int) := by omega
  have c3 : 0 < (o.length : Int) := by omega
  have c4 : 0 ≤ (i : Int) := by omega
  have c5 : (i : Int) < ((cast st).length : Int) := by rw [castL, hb.1]; omega
  have c6 : 0 ≤ ((pj o : Nat) : Int) := by omega
  have c7 : ((pj o : Nat) : Int) < ((cast st).length : Int) := by rw [castL, hb.1]; omega
  by_cases he : pi' o = i
  ·have hs : stepS i st o = st.set i (st.getD i 0 ||| (2 ^ pj o ||| st.getD (pj o) 0)) := by unfold stepS; rw [if_pos he]
   rw [hs] at ih ⊢
   have he2 : ((pi' o : Nat) : Int) = (i : Int) := by omega
   have z1 : pj o ≤ 62 := by omega
   have z2 : i ≤ 62 := by omega
   have z3 : pj o < 63 := by omega
   have hsh := shl_one (i := pj o) z3
   have b1 : st.getD (pj o) 0 < 2 ^ 63 := p63 (hb.2 _) z1
   have b2 : (2 : Nat) ^ pj o < 2 ^ 63 := two_pow_lt63 z3
   have b3 := or_nat b2 b1
   have b4 := or_nat (p63 (hb.2 i) z2) (Nat.or_lt_two_pow (n := 63) b2 b1)
   exact ev_step ih (fun k => by
    simp only [spec_poFrom.l1]
    rw [if_pos c1, if_pos c0, if_pos c1, hr, if_pos c2, g3, if_pos he2, if_pos c4, if_pos c5, if_pos c3, g2, if_pos c6, if_pos c7, rd_cast, rd_cast, hsh, b3, b4, Int.toNat_natCast, cast_set, hw])
  ·have hs : stepS i st o = st := by unfold stepS; rw [if_neg he]
   rw [hs] at ih ⊢
   have he2 : ¬ ((pi' o : Nat) : Int) = (i : Int) := by omega
   exact ev_step ih (fun k => by
    simp only [spec_poFrom.l1]
    rw [if_pos c1, if_pos c0, if_pos c1, hr, if_pos c2, g3, if_neg he2, hw])
theorem poFrom_ev (hok : ∀ o ∈ R, okP (n : Int) o = true) : Ev (fun k => spec_poFrom.f k (n : Int) R) (cast (specR R n)) := by
 have H : ∀ (i : Nat) (st : List Nat), i ≤ n → Bnd n st → Ev (fun k => spec_poFrom.l0 k (n : Int) R (i : Int) (cast st)) (cast (foldFrom (fun st i => R.foldl (stepS i) st) i n st)) := by
  refine ev_down (fun k (st : List Nat) i => spec_poFrom.l0 k (n : Int) R i (cast st)) (fun i st => cast (foldFrom (fun st i => R.foldl (stepS i) st) i n st)) n (fun _ st => Bnd n st) ?_ ?_
  ·intro st _
   rw [foldFrom_end]
   exact ev_step (Ev.now _) (fun k => by simp only [spec_poFrom.l0]; rw [if_neg (by omega)])
  ·intro i st hi hb ih
   have c1 : (i : Int) < (n : Int) := by omega
   rw [foldFrom_step _ hi]
   have h0 := poFrom_l1 h1 hn hR1 hi (fun st => cast (foldFrom (fun st i => R.foldl (stepS i) st) (i + 1) n st)) (fun st hb => ih st hb) R [] st rfl hok hb
   exact ev_step h0 (fun k => by simp only [spec_poFrom.l0]; rw [if_pos c1]; rfl)
 unfold spec_poFrom.f specR
 have hz : List.replicate ((n : Int)).toNat (0 : Int) = cast (List.replicate n 0) := by unfold cast; rw [Int.toNat_natCast, List.map_replicate]; rfl
 exact ev_as (H 0 _ (by omega) (bnd_zero n)) (fun k => by rw [if_pos (by omega), if_pos (by omega), hz]; rfl)
theorem specFC_l0 (fin : List Int × Bool) (hnext : Ev (fun k => (spec_poFrom.f k (n : Int) R).bind fun t => some (t, true)) fin) : ∀ (S pre : List (List Int)), pre ++ S = R → ((∀ o ∈ R, okP (n : Int) o = true) ∨ ∃ o ∈ S, okP (n : Int) o = false) →
  ((∀ o ∈ R, okP (n : Int) o = true) → Ev (fun k => spec_FromCovers.l0 k (n : Int) R R (R.length : Int) (pre.length : Int)) fin) ∧ ((∃ o ∈ S, okP (n : Int) o = false) → Ev (fun k => spec_FromCovers.l0 k (n : Int) R R (R.length : Int) (pre.length : Int)) ([], false)) := by
 intro S
 induction S with
 | nil =>
  intro pre h _
  rw [List.append_nil] at h
  refine ⟨fun _ => ev_step hnext (fun k => by simp only [spec_FromCovers.l0]; rw [if_neg (by rw [← h]; omega)]), fun ⟨o, ho, _⟩ => by cases ho⟩
 | cons o S ihS =>
  intro pre h hd
  have hl : R.length = pre.length + (S.length + 1) := by rw [← h, List.length_append, List.length_cons]
  have c1 : (pre.length : Int) < (R.length : Int) := by omega
  have c0 : 0 ≤ (pre.length : Int) := by omega
  have hw : wrap64 ((pre.length : Int) + 1) = (pre.length : Int) + 1 := wrap64_id (by omega) (by omega)
  have hw2 : wrap64 ((n : Int) - 1) = (n : Int) - 1 := wrap64_id (by omega) (by omega)
  have hr : rd_L1 R (pre.length : Int) = o := by rw [← h]; exact rdL_at pre o S
  have hmem : o ∈ R := by rw [← h]; simp
  by_cases hl2 : o.length = 2
  ·have hl3 : (o.length : Int) = 2 := by omega
   have c2 : 1 < (o.length : Int) := by omega
   have c3 : 0 < (o.length : Int) := by omega
   have hall := l1All_ev o (by omega) ((n : Int) - 1)
   have hrg : rangeB ((n : Int) - 1) o = decide ((0 ≤ rd o 0 ∧ rd o 0 ≤ (n : Int) - 1) ∧ 0 ≤ rd o 1 ∧ rd o 1 ≤ (n : Int) - 1) := by
    match o, hl2 with
    | [x, y], _ =>
     unfold rangeB
     rw [List.all_cons, List.all_cons, List.all_nil, Bool.and_true, Bool.eq_iff_iff, Bool.and_eq_true, decide_eq_true_eq, decide_eq_true_eq, decide_eq_true_eq]
     exact Iff.rfl
   cases hok : okP (n : Int) o with
   | true =>
    obtain ⟨g1, g2, g3, g4, g5⟩ := okP_nat hok
    have hrt : rangeB ((n : Int) - 1) o = true := by rw [hrg, decide_eq_true_eq]; omega
    have hlt : ¬ rd o 0 ≥ rd o 1 := by omega
    obtain ⟨i1, i2⟩ := ihS (pre ++ [o]) (by rw [List.append_assoc]; exact h) (hd.imp id (fun ⟨x, hx, hb⟩ => by
     rcases List.mem_cons.1 hx with rfl | hx
     ·rw [hok] at hb; cases hb
     ·exact ⟨x, hx, hb⟩))
    rw [List.length_append, List.length_singleton, Int.natCast_add, show ((1 : Nat) : Int) = 1 from rfl] at i1 i2
    have go : ∀ r, Ev (fun k => spec_FromCovers.l0 k (n : Int) R R (R.length : Int) ((pre.length : Int) + 1)) r → Ev (fun k => spec_FromCovers.l0 k (n : Int) R R (R.length : Int) (pre.length : Int)) r := fun r hr' => by
     refine ev_stepb (hrt ▸ hall) ?_ (fun k => by simp only [spec_FromCovers.l0]; rw [if_pos c1, if_pos c0, if_pos c1, hr, if_pos hl3, hw2])
     exact ev_as hr' (fun k => by rw [if_pos rfl, if_pos c3, if_pos c2, if_neg hlt, hw])
    refine ⟨fun ha => go _ (i1 ha), fun ⟨x, hx, hb⟩ => go _ (i2 ?_)⟩
    rcases List.mem_cons.1 hx with rfl | hx
    ·rw [hok] at hb; cases hb
    ·exact ⟨x, hx, hb⟩
   | false =>
    refine ⟨fun ha => (by have := ha o hmem; rw [hok] at this; cases this), fun _ => ?_⟩
    cases hrt : rangeB ((n : Int) - 1) o with
    | false =>
     refine ev_stepb (hrt ▸ hall) ?_ (fun k => by simp only [spec_FromCovers.l0]; rw [if_pos c1, if_pos c0, if_pos c1, hr, if_pos hl3, hw2])
     exact ev_as (Ev.now _) (fun k => by rw [if_neg (by decide)])
    | true =>
     have hge : rd o 0 ≥ rd o 1 := by
      unfold okP at hok
      rw [decide_eq_true hl2, Bool.true_and, decide_eq_false_iff_not] at hok
      rw [hrg, decide_eq_true_eq] at hrt
      omega
     refine ev_stepb (hrt ▸ hall) ?_ (fun k => by simp only [spec_FromCovers.l0]; rw [if_pos c1, if_pos c0, if_pos c1, hr, if_pos hl3, hw2])
     exact ev_as (Ev.now _) (fun k => by rw [if_pos rfl, if_pos c3, if_pos c2, if_pos hge])
  ·have hok : okP (n : Int) o = false := by unfold okP; rw [decide_eq_false hl2, Bool.false_and]
   have hl3 : ¬ (o.length : Int) = 2 := by omega
   refine ⟨fun ha => (by have := ha o hmem; rw [hok] at this; cases this), fun _ => ?_⟩
   exact ev_step (Ev.now _) (fun k => by simp only [spec_FromCovers.l0]; rw [if_pos c1, if_pos c0, if_pos c1, hr, if_neg hl3])
theorem specFC_bad : ∀ (S pre : List (List Int)), pre ++ S = R → (∃ o ∈ S, okP (n : Int) o = false) → Ev (fun k => spec_FromCovers.l0 k (n : Int) R R (R.length : Int) (pre.length : Int)) ([], false) := by
 intro S
 induction S with
 | nil =>
  intro pre h ⟨o, ho, _⟩
  cases ho
 | cons o S ihS =>
  intro pre h ⟨xb, hxb, hbb⟩
  have hl : R.length = pre.length + (S.length + 1) := by rw [← h, List.length_append, List.length_cons]
  have c1 : (pre.length : Int) < (R.length : Int) := by omega
  have c0 : 0 ≤ (pre.length : Int) := by omega
  have hw : wrap64 ((pre.length : Int) + 1) = (pre.length : Int) + 1 := wrap64_id (by omega) (by omega)
  have hw2 : wrap64 ((n : Int) - 1) = (n : Int) - 1 := wrap64_id (by omega) (by omega)
  have hr : rd_L1 R (pre.length : Int) = o := by rw [← h]; exact rdL_at pre o S
  have hmem : o ∈ R := by rw [← h]; simp
  by_cases hl2 : o.length = 2
  ·have hl3 : (o.length : Int) = 2 := by omega
   have c2 : 1 < (o.length : Int) := by omega
   have c3 : 0 < (o.length : Int) := by omega
   have hall := l1All_ev o (by omega) ((n : Int) - 1)
   have hrg : rangeB ((n : Int) - 1) o = decide ((0 ≤ rd o 0 ∧ rd o 0 ≤ (n : Int) - 1) ∧ 0 ≤ rd o 1 ∧ rd o 1 ≤ (n : Int) - 1) := by
    match o, hl2 with
    | [x, y], _ =>
     unfold rangeB
     rw [List.all_cons, List.all_cons, List.all_nil, Bool.and_true, Bool.eq_iff_iff, Bool.and_eq_true, decide_eq_true_eq, decide_eq_true_eq, decide_eq_true_eq]
     exact Iff.rfl
   cases hok : okP (n : Int) o with
   | true =>
    obtain ⟨g1, g2, g3, g4, g5⟩ := okP_nat hok
    have hrt : rangeB ((n : Int) - 1) o = true := by rw [hrg, decide_eq_true_eq]; omega
    have hlt : ¬ rd o 0 ≥ rd o 1 := by omega
    have hxS : xb ∈ S := by
     rcases List.mem_cons.1 hxb with rfl | hx
     ·rw [hok] at hbb; cases hbb
     ·exact hx
    have i2 := ihS (pre ++ [o]) (by rw [List.append_assoc]; exact h) ⟨xb, hxS, hbb⟩
    rw [List.length_append, List.length_singleton, Int.natCast_add, show ((1 : Nat) : Int) = 1 from rfl] at i2
    have go : ∀ r, Ev (fun k => spec_FromCovers.l0 k (n : Int) R R (R.length : Int) ((pre.length : Int) + 1)) r → Ev (fun k => spec_FromCovers.l0 k (n : Int) R R (R.length : Int) (pre.length : Int)) r := fun r hr' => by
     refine ev_stepb (hrt ▸ hall) ?_ (fun k => by simp only [spec_FromCovers.l0]; rw [if_pos c1, if_pos c0, if_pos c1, hr, if_pos hl3, hw2])
     exact ev_as hr' (fun k => by rw [if_pos rfl, if_pos c3, if_pos c2, if_neg hlt, hw])
    exact go _ i2
   | false =>
    cases hrt : rangeB ((n : Int) - 1) o with
    | false =>
     refine ev_stepb (hrt ▸ hall) ?_ (fun k => by simp only [spec_FromCovers.l0]; rw [if_pos c1, if_pos c0, if_pos c1, hr, if_pos hl3, hw2])
     exact ev_as (Ev.now _) (fun k => by rw [if_neg (by decide)])
    | true =>
     have hge : rd o 0 ≥ rd o 1 := by
      unfold okP at hok
      rw [decide_eq_true hl2, Bool.true_and, decide_eq_false_iff_not] at hok
      rw [hrg, decide_eq_true_eq] at hrt
      omega
     refine ev_stepb (hrt ▸ hall) ?_ (fun k => by simp only [spec_FromCovers.l0]; rw [if_pos c1, if_pos c0, if_pos c1, hr, if_pos hl3, hw2])
     exact ev_as (Ev.now _) (fun k => by rw [if_pos rfl, if_pos c3, if_pos c2, if_pos hge])
  ·have hok : okP (n : Int) o = false := by unfold okP; rw [decide_eq_false hl2, Bool.false_and]
   have hl3 : ¬ (o.length : Int) = 2 := by omega
   exact ev_step (Ev.now _) (fun k => by simp only [spec_FromCovers.l0]; rw [if_pos c1, if_pos c0, if_pos c1, hr, if_neg hl3])
theorem specFC_no : ∀ (S pre : List (List Int)), pre ++ S = R → (∃ o ∈ S, okP (n : Int) o = false) → Ev (fun k => spec_FromCovers.l0 k (n : Int) R R (R.length : Int) (pre.length : Int)) ([], false) := by
 intro S pre h hex
 by_cases hall : ∀ o ∈ R, okP (n : Int) o = true
 ·obtain ⟨o, ho, hb⟩ := hex
  have := hall o (by rw [← h]; exact List.mem_append_right _ ho)
  rw [hb] at this
  cases this
 ·exact specFC_bad h1 hn hR1 S pre h hex
theorem implFC_l2 {i : Nat} (hi : i < n) (its : List Nat) (hits : ∀ j ∈ its, j < i) (hil : its.length ≤ 10) (fin : List Nat → List Int × Bool) (hnext : ∀ st, Bnd n st → Ev (fun k => impl_FromCovers.l1 k (n : Int) ((i : Int) + 1) (cast st)) (fin st)) :
  ∀ (e : Nat) (st : List Nat), e ≤ its.length → Bnd n st → Ev (fun k => impl_FromCovers.l2 k (i : Int) (n : Int) (i : Int) (cast its) ((cast its).length : Int) (e : Int) (cast st)) (fin ((its.drop e).foldl (stepI i) st)) := by
 refine ev_down (fun k (st : List Nat) e => impl_FromCovers.l2 k (i : Int) (n : Int) (i : Int) (cast its) ((cast its).length : Int) e (cast st)) (fun e st => fin ((its.drop e).foldl (stepI i) st)) its.length (fun _ st => Bnd n st) ?_ ?_
 ·intro st hb
  rw [List.drop_length]
  have hw : wrap64 ((i : Int) + 1) = (i : Int) + 1 := wrap64_id (by omega) (by omega)
  exact ev_step (hnext st hb) (fun k => by simp only [impl_FromCovers.l2]; rw [if_neg (by rw [cast_length]; omega), hw])
 ·intro e st he hb ih
  obtain ⟨j, hj⟩ : ∃ j, its.getD e 0 = j := ⟨_, rfl⟩
  have hji : j < i := hits j (by rw [← hj]; exact getD_memN he)
  have c1 : (e : Int) < ((cast its).length : Int) := by rw [cast_length]; omega
  have c2 : 0 ≤ (e : Int) := by omega
  have c3 : 0 ≤ (i : Int) := by omega
  have c4 : (i : Int) < ((cast st).length : Int) := by rw [castL, hb.1]; omega
  have c5 : 0 ≤ (j : Int) := by omega
  have c6 : (j : Int) < ((cast st).length : Int) := by rw [castL, hb.1]; omega
  have hr : rd (cast its) (e : Int) = (j : Int) := by rw [← hj]; exact rd_cast _ _
  have hw : wrap64 ((e : Int) + 1) = (e : Int) + 1 := wrap64_id (by omega) (by omega)
  have b4 := or_nat (p63 (hb.2 i) (by omega)) (p63 (hb.2 j) (by omega))
  rw [drop_step its 0 he, hj, List.foldl_cons]
  exact ev_step (ih (stepI i st j) (stepI_bnd hb hi hji)) (fun k => by
   simp only [impl_FromCovers.l2]
   rw [if_pos c1, if_pos c2, if_pos c1, if_pos c3, if_pos c4, hr, if_pos c5, if_pos c6, rd_cast, rd_cast, b4, Int.toNat_natCast, cast_set, hw]
   rfl)
theorem implFC_l1 : ∀ (i : Nat) (st : List Nat), i ≤ n → Bnd n st → Ev (fun k => impl_FromCovers.l1 k (n : Int) (i : Int) (cast st)) (cast (foldFrom (fun st i => (items (st.getD i 0)).foldl (stepI i) st) i n st), true) := by
 refine ev_down (fun k (st : List Nat) i => impl_FromCovers.l1 k (n : Int) i (cast st)) (fun i st => (cast (foldFrom (fun st i => (items (st.getD i 0)).foldl (stepI i) st) i n st), true)) n (fun _ st => Bnd n st) ?_ ?_
 ·intro st _
  rw [foldFrom_end]
  exact ev_step (Ev.now _) (fun k => by simp only [impl_FromCovers.l1]; rw [if_neg (by omega)])
 ·intro i st hi hb ih
  have c1 : (i : Int) < (n : Int) := by omega
  have c2 : 0 ≤ (i : Int) := by omega
  have c3 : (i : Int) < ((cast st).length : Int) := by rw [castL, hb.1]; omega
  have hil : (items (st.getD i 0)).length ≤ 10 := by unfold items; exact Nat.le_trans (List.length_filter_le _ _) (by simp)
  rw [foldFrom_step _ hi]
  have h0 := implFC_l2 h1 hn hR1 hi (items (st.getD i 0)) (items_lt (hb.2 i)) hil (fun st => (cast (foldFrom (fun st i => (items (st.getD i 0)).foldl (stepI i) st) (i + 1) n st), true)) (fun st hb => ih st hb) 0 st (by omega) hb
  refine ev_stepb (items_ev (p63 (hb.2 i) (by omega))) ?_ (fun k => by simp only [impl_FromCovers.l1]; rw [if_pos c1, if_pos c2, if_pos c3, rd_cast])
  exact h0
theorem implFC_l0 (fin : List Nat → List Int × Bool) (hnext : ∀ st, Bnd n st → Ev (fun k => impl_FromCovers.l1 k (n : Int) 0 (cast st)) (fin st)) : ∀ (S pre : List (List Int)) (st : List Nat), pre ++ S = R → Bnd n st →
  ((∀ o ∈ S, okP (n : Int) o = true) → Ev (fun k => impl_FromCovers.l0 k (n : Int) R (R.length : Int) (pre.length : Int) (cast st)) (fin (S.foldl stepD st))) ∧ ((∃ o ∈ S, okP (n : Int) o = false) → Ev (fun k => impl_FromCovers.l0 k (n : Int) R (R.length : Int) (pre.length : Int) (cast st)) ([], false)) := by
 intro S
 induction S with
 | nil =>
  intro pre st h hb
  rw [List.append_nil] at h
  refine ⟨fun _ => ev_step (hnext st hb) (fun k => by simp only [impl_FromCovers.l0]; rw [if_neg (by rw [← h]; omega)]), fun ⟨o, ho, _⟩ => by cases ho⟩
 | cons o S ihS =>
  intro pre st h hb
  have hl : R.length = pre.length + (S.length + 1) := by rw [← h, List.length_append, List.length_cons]
  have c1 : (pre.length : Int) < (R.length : Int) := by omega
  have c0 : 0 ≤ (pre.length : Int) := by omega
  have hw : wrap64 ((pre.length : Int) + 1) = (pre.length : Int) + 1 := wrap64_id (by omega) (by omega)
  have hw2 : wrap64 ((n : Int) - 1) = (n : Int) - 1 := wrap64_id (by omega) (by omega)
  have hr : rd_L1 R (pre.length : Int) = o := by rw [← h]; exact rdL_at pre o S
  by_cases hl2 : o.length = 2
  ·have hl3 : (o.length : Int) = 2 := by omega
   have c2 : 1 < (o.length : Int) := by omega
   have c3 : 0 < (o.length : Int) := by omega
   by_cases hy : 0 ≤ rd o 1 ∧ rd o 1 ≤ (n : Int) - 1
   ·have hw3 : wrap64 (rd o 1 - 1) = rd o 1 - 1 := wrap64_id (by omega) (by omega)
    by_cases hx : 0 ≤ rd o 0 ∧ rd o 0 ≤ rd o 1 - 1
    ·have hok : okP (n : Int) o = true := by unfold okP; rw [decide_eq_true hl2, Bool.true_and, decide_eq_true_eq]; omega
     obtain ⟨g1, g2, g3, g4, g5⟩ := okP_nat hok
     have c4 : 0 ≤ ((pi' o : Nat) : Int) := by omega
     have c5 : ((pi' o : Nat) : Int) < ((cast st).length : Int) := by rw [castL, hb.1]; omega
     have c6 : 0 ≤ ((pj o : Nat) : Int) := by omega
     have b2 : (2 : Nat) ^ pj o < 2 ^ 63 := two_pow_lt63 (by omega)
     have b4 := or_nat (p63 (hb.2 (pi' o)) (by omega)) b2
     have hsh := shl_one (i := pj o) (by omega)
     obtain ⟨i1, i2⟩ := ihS (pre ++ [o]) (stepD st o) (by rw [List.append_assoc]; exact h) (stepD_bnd hb hok)
     rw [List.length_append, List.length_singleton, Int.natCast_add, show ((1 : Nat) : Int) = 1 from rfl] at i1 i2
     have go : ∀ r, Ev (fun k => impl_FromCovers.l0 k (n : Int) R (R.length : Int) ((pre.length : Int) + 1) (cast (stepD st o))) r → Ev (fun k => impl_FromCovers.l0 k (n : Int) R (R.length : Int) (pre.length : Int) (cast st)) r := fun r hr' =>
      ev_step hr' (fun k => by
       simp only [impl_FromCovers.l0]
       rw [if_pos c1, if_pos c0, if_pos c1, hr, if_pos hl3, if_pos c2, within_is, hw2, decide_eq_true hy, Option.bind_some, if_pos rfl, if_pos c3, within_is, hw3, decide_eq_true hx, Option.bind_some, if_pos rfl, g3, if_pos c4, if_pos c5, g2, if_pos c6, rd_cast, hsh, b4, Int.toNat_natCast, cast_set, hw]
       rfl)
     refine ⟨fun ha => go _ (i1 (fun o ho => ha o (List.mem_cons_of_mem _ ho))), fun ⟨x, hx', hb'⟩ => go _ (i2 ?_)⟩
     rcases List.mem_cons.1 hx' with rfl | hx'
     ·rw [hok] at hb'; cases hb'
     ·exact ⟨x, hx', hb'⟩
    ·have hok : okP (n : Int) o = false := by unfold okP; rw [decide_eq_true hl2, Bool.true_and, decide_eq_false_iff_not]; omega
     refine ⟨fun ha => (by have := ha o List.mem_cons_self; rw [hok] at this; cases this), fun _ => ?_⟩
     exact ev_step (Ev.now _) (fun k => by simp only [impl_FromCovers.l0]; rw [if_pos c1, if_pos c0, if_pos c1, hr, if_pos hl3, if_pos c2, within_is, hw2, decide_eq_true hy, Option.bind_some, if_pos rfl, if_pos c3, within_is, hw3, decide_eq_false hx, Option.bind_some, if_neg (by decide)])
   ·have hok : okP (n : Int) o = false := by unfold okP; rw [decide_eq_true hl2, Bool.true_and, decide_eq_false_iff_not]; omega
    refine ⟨fun ha => (by have := ha o List.mem_cons_self; rw [hok] at this; cases this), fun _ => ?_⟩
    exact ev_step (Ev.now _) (fun k => by simp only [impl_FromCovers.l0]; rw [if_pos c1, if_pos c0, if_pos c1, hr, if_pos hl3, if_pos c2, within_is, hw2, decide_eq_false hy, Option.bind_some, if_neg (by decide)])
  ·have hok : okP (n : Int) o = false := by unfold okP; rw [decide_eq_false hl2, Bool.false_and]
   have hl3 : ¬ (o.length : Int) = 2 := by omega
   refine ⟨fun ha => (by have := ha o List.mem_cons_self; rw [hok] at this; cases this), fun _ => ?_⟩
   exact ev_step (Ev.now _) (fun k => by simp only [impl_FromCovers.l0]; rw [if_pos c1, if_pos c0, if_pos c1, hr, if_neg hl3])
end
end Go.Proofs.YtkadihmhaoghfaaDoor.B

namespace Go.Proofs.YtkadihmhaoghfaaDoor.B
open Go.RowKit Go.Proofs.YtkadihmhaoghfaaDoor.M Go.Proofs.YtkadihmhaoghfaaDoorW.PrintWords Go.Proofs.YtkadihmhaoghfaaDoorW.PrintLast Go.Proofs.YtkadihmhaoghfaaDoorW.PrintMore
attribute [local irreducible] Go.bits shl shr sd
theorem specR_bnd {R : List (List Int)} {n : Nat} (hR : ∀ o ∈ R, okP (n : Int) o = true) : Bnd n (specR R n) := by
 unfold specR
 exact foldFrom_inv _ (fun _ st => Bnd n st) n (fun i st hi hb => foldS_bnd hi R hR st hb) 0 _ (Nat.zero_le _) (bnd_zero n)
theorem specR_trans {R : List (List Int)} {n : Nat} (hR : ∀ o ∈ R, okP (n : Int) o = true) : ∀ (m i : Nat), i ≤ m → i < n → ∀ j, ((specR R n).getD i 0).testBit j = true → ∀ c, ((specR R n).getD j 0).testBit c = true → ((specR R n).getD i 0).testBit c = true
 | m, i, hm, hi, j, hj, c, hc => by
  obtain ⟨_, hT⟩ := specR_told hR
  obtain ⟨o, ho, hpi, hp⟩ := (hT i hi j).1 hj
  have hk := okP_nat (hR o ho)
  rcases hp with rfl | hp
  ·exact (hT i hi c).2 ⟨o, ho, hpi, .inr hc⟩
  ·cases m with
   | zero => omega
   | succ m =>
    have := specR_trans hR m (pj o) (by omega) (by omega) j hp c hc
    exact (hT i hi c).2 ⟨o, ho, hpi, .inr this⟩
theorem specR_good {R : List (List Int)} {n : Nat} (h1 : 1 ≤ n) (hn : n ≤ 10) (hR : ∀ o ∈ R, okP (n : Int) o = true) : Good (cast (specR R n)) (specR R n) := by
 obtain ⟨hl, hb⟩ := specR_bnd hR
 refine ⟨rfl, by omega, by omega, fun i _ => hb i, fun i hi j hj => ?_⟩
 rw [sd_eq_zero]
 exact fun c hc => specR_trans hR i i (Nat.le_refl _) (by omega) j hj c hc
theorem both_FC (a : Int) (R : List (List Int)) : ∃ w z, (z = true → ∃ P, Good w P) ∧ Ev (fun k => spec_FromCovers.f k a R) (w, z) ∧ Ev (fun k => impl_FromCovers.f k a R) (w, z) := by
 have s1 : Ev (fun k => spec_FromCovers.j0 k a R true) ([], false) := ev_step (Ev.now _) (fun k => by simp only [spec_FromCovers.j0]; rw [if_pos trivial])
 have s2 : Ev (fun k => impl_FromCovers.j0 k a R true) ([], false) := ev_step (Ev.now _) (fun k => by simp only [impl_FromCovers.j0]; rw [if_pos trivial])
 unfold spec_FromCovers.f impl_FromCovers.f
 by_cases ha : 1 ≤ a ∧ a ≤ 10
 ·by_cases hl : (R.length : Int) > 100
  ·exact ⟨[], false, (fun h => absurd h (by decide)), ev_as s1 (fun k => by rw [l1In_is, decide_eq_true ha, Option.bind_some, if_pos rfl, decide_eq_true hl]), ev_as s2 (fun k => by rw [within_is, decide_eq_true ha, Option.bind_some, if_pos rfl, decide_eq_true hl])⟩
  ·obtain ⟨n, rfl⟩ : ∃ n : Nat, a = (n : Int) := ⟨a.toNat, by omega⟩
   have h1 : 1 ≤ n := by omega
   have hn : n ≤ 10 := by omega
   have hR1 : R.length ≤ 100 := by omega
   have hz : List.replicate ((n : Int)).toNat (0 : Int) = cast (List.replicate n 0) := by unfold cast; rw [Int.toNat_natCast, List.map_replicate]; rfl
   have goI : ∀ r, Ev (fun k => impl_FromCovers.l0 k (n : Int) R (R.length : Int) (([] : List (List Int)).length : Int) (cast (List.replicate n 0))) r → Ev (fun k => (impl_within.f (n : Int) 1 10).bind fun t => if t = true then impl_FromCovers.j0 k (n : Int) R (decide ((R.length : Int) > 100)) else impl_FromCovers.j0 k (n : Int) R true) r := fun r h => by
    refine ev_as (ev_step (g := fun k => impl_FromCovers.j0 k (n : Int) R false) h (fun k => ?_)) (fun k => by rw [within_is, decide_eq_true ha, Option.bind_some, if_pos rfl, decide_eq_false hl])
    simp only [impl_FromCovers.j0]
    rw [if_neg (by decide), if_pos (by omega), if_pos (by omega), hz]
    rfl
   have goS : ∀ r, Ev (fun k => spec_FromCovers.l0 k (n : Int) R R (R.length : Int) (([] : List (List Int)).length : Int)) r → Ev (fun k => (spec_l1In.f (n : Int) 1 10).bind fun t => if t = true then spec_FromCovers.j0 k (n : Int) R (decide ((R.length : Int) > 100)) else spec_FromCovers.j0 k (n : Int) R true) r := fun r h => by
    refine ev_as (ev_step (g := fun k => spec_FromCovers.j0 k (n : Int) R false) h (fun k => ?_)) (fun k => by rw [l1In_is, decide_eq_true ha, Option.bind_some, if_pos rfl, decide_eq_false hl])
    simp only [spec_FromCovers.j0]
    rw [if_neg (by decide)]
    rfl
   by_cases hall : ∀ o ∈ R, okP (n : Int) o = true
   ·have hlen : (specR R n).length = n := (specR_told hall).1
    have k1 := implFC_l0 h1 hn hR1 (fun st => (cast (implR n st), true)) (fun st hb => implFC_l1 h1 hn hR1 0 st (by omega) hb) R [] (List.replicate n 0) rfl (bnd_zero n)
    have k2 := k1.1 hall
    rw [both_from hn hall] at k2
    have k3 := (specFC_l0 h1 hn hR1 (cast (specR R n), true) (Ev.bind (poFrom_ev h1 hn hR1 hall) (Ev.now _)) R [] rfl (.inl hall)).1 hall
    exact ⟨cast (specR R n), true, (fun _ => ⟨_, specR_good h1 hn hall⟩), goS _ k3, goI _ k2⟩
   ·have hex : ∃ o ∈ R, okP (n : Int) o = false := by
     apply Classical.byContradiction
     intro hno
     apply hall
     intro o ho
     cases hb : okP (n : Int) o with
     | true => rfl
     | false => exact absurd ⟨o, ho, hb⟩ hno
    have k1 := (implFC_l0 h1 hn hR1 (fun st => (cast (implR n st), true)) (fun st hb => implFC_l1 h1 hn hR1 0 st (by omega) hb) R [] (List.replicate n 0) rfl (bnd_zero n)).2 hex
    have k3 : Ev (fun k => spec_FromCovers.l0 k (n : Int) R R (R.length : Int) (([] : List (List Int)).length : Int)) ([], false) := specFC_no h1 hn hR1 R [] rfl hex
    exact ⟨[], false, (fun h => absurd h (by decide)), goS _ k3, goI _ k1⟩
 ·exact ⟨[], false, (fun h => absurd h (by decide)), ev_as s1 (fun k => by rw [l1In_is, decide_eq_false ha, Option.bind_some, if_neg (by decide)]), ev_as s2 (fun k => by rw [within_is, decide_eq_false ha, Option.bind_some, if_neg (by decide)])⟩
end Go.Proofs.YtkadihmhaoghfaaDoor.B

namespace Go.Proofs.YtkadihmhaoghfaaDoor.B
open Go.RowKit Go.Proofs.YtkadihmhaoghfaaDoor.M Go.Proofs.YtkadihmhaoghfaaDoorW.PrintWords Go.Proofs.YtkadihmhaoghfaaDoorW.PrintLast Go.Proofs.YtkadihmhaoghfaaDoorW.PrintMore
attribute [local irreducible] Go.bits shl shr sd
variable {l : List Int} {P : List Nat} (hP : Good l P)
include hP
def cov (P : List Nat) (i : Nat) : Nat := tp P (P.getD i 0)
omit hP in
theorem cov_bit (i j : Nat) : (cov P i).testBit j = true ↔ (P.getD i 0).testBit j = true ∧ ∀ k, k < P.length → (P.getD i 0).testBit k = true → (P.getD k 0).testBit j = false := tp_bit P _ j
def xb (s d e : Nat) (a b : Bool) (j : Nat) : Bool := if j = d then a else if j = e then b else s.testBit j
omit hP in
theorem xb_swap {d e : Nat} (h : d ≠ e) (s : Nat) (a b : Bool) : xb s d e a b = xb s e d b a := by
 funext j
 unfold xb
 by_cases h1 : j = d
 ·subst h1; simp [h]
 ·simp [h1]
def closedB (P : List Nat) (f : Nat → Bool) : Prop := ∀ i, i < P.length → f i = true → ∀ j, (P.getD i 0).testBit j = true → f j = true
omit hP in
theorem closed_three {s d e : Nat} (h : d ≠ e) (h1 : closedB P (xb s d e true false)) (h2 : closedB P (xb s d e false true)) : closedB P (xb s d e false false) ∧ closedB P (xb s d e true true) := by
 constructor
 ·intro i hi hb j hj
  have hid : i ≠ d := by rintro rfl; simp [xb] at hb
  have hie : i ≠ e := by rintro rfl; simp [xb] at hb
  have hs : s.testBit i = true := by simpa [xb, hid, hie] using hb
  have a1 := h1 i hi (by simp [xb, hid, hie, hs]) j hj
  have a2 := h2 i hi (by simp [xb, hid, hie, hs]) j hj
  have hjd : j ≠ d := by rintro rfl; simp [xb] at a2
  have hje : j ≠ e := by rintro rfl; simp [xb, hjd] at a1
  simpa [xb, hjd, hje] using a1
 ·intro i hi hb j hj
  have key : xb s d e true false i = true ∨ xb s d e false true i = true := by
   unfold xb at hb ⊢
   by_cases hd : i = d
   ·left; simp [hd]
   ·by_cases he : i = e
    ·right; simp [he, Ne.symm h]
    ·left; simpa [hd, he] using hb
  rcases key with hk | hk
  ·have a := h1 i hi hk j hj
   unfold xb at a ⊢
   by_cases hd : j = d
   ·simp [hd]
   ·by_cases he : j = e
    ·simp [he]
    ·simpa [hd, he] using a
  ·have a := h2 i hi hk j hj
   unfold xb at a ⊢
   by_cases hd : j = d
   ·simp [hd]
   ·by_cases he : j = e
    ·simp [he]
    ·simpa [hd, he] using a
theorem closed_one {s d e : Nat} (h : d ≠ e) (hc : (cov P e).testBit d = false) (h0 : closedB P (xb s d e false false)) (h2 : closedB P (xb s d e true true)) : closedB P (xb s d e false true) := by
 intro i hi hb j hj
 have hid : i ≠ d := by rintro rfl; simp [xb] at hb
 by_cases hie : i = e
 ·subst hie
  have a := h2 i hi (by simp [xb]) j hj
  by_cases hjd : j = d
  ·subst hjd
   exfalso
   have hn : ¬ ((cov P i).testBit j = true) := by rw [hc]; decide
   rw [cov_bit] at hn
   apply hn
   refine ⟨hj, fun k hk hik => ?_⟩
   cases hkj : (P.getD k 0).testBit j with
   | false => rfl
   | true =>
    have hki : k ≠ i := by have := (below_lt hP hik).1; omega
    have hkd : k ≠ j := by have := (below_lt hP hkj).1; omega
    have a3 := h2 i hi (by simp [xb]) k hik
    have hks : s.testBit k = true := by simpa [xb, hkd, hki] using a3
    have a4 := h0 k hk (by simp [xb, hkd, hki, hks]) j hkj
    simp [xb] at a4
  ·unfold xb at a ⊢
   by_cases he : j = i
   ·simp [he, hid]
   ·simpa [hjd, he] using a
 ·have hs : s.testBit i = true := by simpa [xb, hid, hie] using hb
  have a := h0 i hi (by simp [xb, hid, hie, hs]) j hj
  have hjd : j ≠ d := by rintro rfl; simp [xb] at a
  have hje : j ≠ e := by rintro rfl; simp [xb] at a
  simpa [xb, hjd, hje] using a
def xs (s d e : Nat) (a b : Bool) : Nat := sd (sd s (2 ^ d)) (2 ^ e) ||| ((if a = true then 2 ^ d else 0) ||| (if b = true then 2 ^ e else 0))
omit hP in
theorem xs_bit {s d e : Nat} (h : d ≠ e) (a b : Bool) (j : Nat) : (xs s d e a b).testBit j = xb s d e a b j := by
 unfold xs xb
 rw [Nat.testBit_or, Nat.testBit_or, sd_bit, sd_bit]
 have ha : (if a = true then 2 ^ d else 0).testBit j = (a && decide (d = j)) := by cases a <;> simp [Nat.testBit_two_pow]
 have hb : (if b = true then 2 ^ e else 0).testBit j = (b && decide (e = j)) := by cases b <;> simp [Nat.testBit_two_pow]
 rw [ha, hb, Nat.testBit_two_pow, Nat.testBit_two_pow]
 by_cases h1 : j = d
 ·subst h1
  simp [Ne.symm h]
 ·by_cases h2 : j = e
  ·subst h2
   simp [h]
   intro h3; exact absurd h3 h1
  ·simp [h1, h2, Ne.symm h1, Ne.symm h2]
omit hP in
theorem xs_idl {s d e : Nat} (h : d ≠ e) (a b : Bool) : idl P (xs s d e a b) = true ↔ closedB P (xb s d e a b) := by
 rw [idl_iff]
 unfold closedB
 simp only [xs_bit h]
omit hP in
theorem xs_self {s d e : Nat} (h : d ≠ e) : xs s d e (s.testBit d) (s.testBit e) = s := by
 apply Nat.eq_of_testBit_eq
 intro j
 rw [xs_bit h]
 unfold xb
 by_cases h1 : j = d
 ·simp [h1]
 ·by_cases h2 : j = e
  ·subst h2; simp [h1]
  ·simp [h1, h2]
omit hP in
theorem xs_d {s d e : Nat} (h : d ≠ e) (a b : Bool) : xs s d e a b ^^^ 2 ^ d = xs s d e (!a) b := by
 apply Nat.eq_of_testBit_eq
 intro j
 rw [xor_bit, xs_bit h, xs_bit h]
 unfold xb
 by_cases h1 : j = d
 ·subst h1; simp
 ·simp [h1, Ne.symm h1]
omit hP in
theorem xs_e {s d e : Nat} (h : d ≠ e) (a b : Bool) : xs s d e a b ^^^ 2 ^ e = xs s d e a (!b) := by
 apply Nat.eq_of_testBit_eq
 intro j
 rw [xor_bit, xs_bit h, xs_bit h]
 unfold xb
 by_cases h1 : j = e
 ·subst h1; simp [Ne.symm h]
 ·by_cases h2 : j = d
  ·simp [h2, Ne.symm h]
  ·simp [h1, h2, Ne.symm h1]
omit hP in
theorem four (B : Bool → Bool → Bool) (X : Bool → Bool → Nat) (f1 : B false false = true → B true true = true → B false true = true) (f2 : B false false = true → B true true = true → B true false = true)
  (f3 : B true false = true → B false true = true → B false false = true ∧ B true true = true) (a b : Bool) (h : B a b = true) :
  (if B (!a) b = true then (if B (!a) (!b) = true then X (!a) (!b) else X (!a) b) else (if B a (!b) = true then X a (!b) else X a b)) = (if B a (!b) = true then (if B (!a) (!b) = true then X (!a) (!b) else X a (!b)) else (if B (!a) b = true then X (!a) b else X a b)) := by
 revert f1 f2 f3 h
 cases a <;> cases b <;> cases h00 : B false false <;> cases h01 : B false true <;> cases h10 : B true false <;> cases h11 : B true true <;> simp [h00, h01, h10, h11]
theorem commute {d e : Nat} (hd : (cov P e).testBit d = false) (he : (cov P d).testBit e = false) {s : Nat} (hs : idl P s = true) : tog P (tog P s d) e = tog P (tog P s e) d := by
 by_cases h : d = e
 ·rw [h]
 have f1 : idl P (xs s d e false false) = true → idl P (xs s d e true true) = true → idl P (xs s d e false true) = true := by
  rw [xs_idl h, xs_idl h, xs_idl h]
  exact closed_one hP h hd
 have f2 : idl P (xs s d e false false) = true → idl P (xs s d e true true) = true → idl P (xs s d e true false) = true := by
  rw [xs_idl h, xs_idl h, xs_idl h, xb_swap h, xb_swap h, xb_swap h]
  exact closed_one hP (Ne.symm h) he
 have f3 : idl P (xs s d e true false) = true → idl P (xs s d e false true) = true → idl P (xs s d e false false) = true ∧ idl P (xs s d e true true) = true := by
  rw [xs_idl h, xs_idl h, xs_idl h, xs_idl h]
  exact closed_three h
 have hs' : idl P (xs s d e (s.testBit d) (s.testBit e)) = true := by rw [xs_self h]; exact hs
 have H := four (fun a b => idl P (xs s d e a b)) (fun a b => xs s d e a b) f1 f2 f3 _ _ hs'
 have hd' : ∀ a b, tog P (xs s d e a b) d = if idl P (xs s d e (!a) b) = true then xs s d e (!a) b else xs s d e a b := fun a b => by unfold tog; rw [xs_d h]
 have he' : ∀ a b, tog P (xs s d e a b) e = if idl P (xs s d e a (!b)) = true then xs s d e a (!b) else xs s d e a b := fun a b => by unfold tog; rw [xs_e h]
 have e0 : s = xs s d e (s.testBit d) (s.testBit e) := (xs_self h).symm
 revert H e0
 generalize s.testBit d = a
 generalize s.testBit e = b
 intro H e0
 generalize hX : (fun a b => xs s d e a b) = X at *
 have hd2 : ∀ a b, tog P (X a b) d = if idl P (X (!a) b) = true then X (!a) b else X a b := fun a b => by rw [← hX]; exact hd' a b
 have he2 : ∀ a b, tog P (X a b) e = if idl P (X a (!b)) = true then X a (!b) else X a b := fun a b => by rw [← hX]; exact he' a b
 have e2 : s = X a b := by rw [← hX]; exact e0
 have H2 : (if idl P (X (!a) b) = true then (if idl P (X (!a) (!b)) = true then X (!a) (!b) else X (!a) b) else (if idl P (X a (!b)) = true then X a (!b) else X a b)) = (if idl P (X a (!b)) = true then (if idl P (X (!a) (!b)) = true then X (!a) (!b) else X a (!b)) else (if idl P (X (!a) b) = true then X (!a) b else X a b)) := by rw [← hX]; exact H
 clear H hd' he' f1 f2 f3 hX e0 hs'
 subst e2
 rw [hd2, he2]
 refine Eq.trans ?_ (H2.trans ?_)
 ·split
  ·exact he2 _ _
  ·exact he2 _ _
 ·split
  ·exact (hd2 _ _).symm
  ·exact (hd2 _ _).symm
theorem row_idl (e : Nat) : idl P (P.getD e 0) = true := by
 rw [idl_iff]
 intro i _ hi j hj
 exact below_trans hP hi hj
theorem no_commute {d e : Nat} (he : e < P.length) (hc : (cov P e).testBit d = true) : ∃ s, s < 2 ^ P.length ∧ idl P s = true ∧ tog P (tog P s d) e ≠ tog P (tog P s e) d := by
 obtain ⟨hb, hk⟩ := (cov_bit e d).1 hc
 have hde := (below_lt hP hb).1
 have sb : ∀ j, (sd (P.getD e 0) (2 ^ d)).testBit j = true ↔ (P.getD e 0).testBit j = true ∧ j ≠ d := by
  intro j
  rw [sd_bit, Nat.testBit_two_pow]
  by_cases h : d = j
  ·subst h; simp
  ·simp [h, Ne.symm h]
 have hxd : sd (P.getD e 0) (2 ^ d) ^^^ 2 ^ d = P.getD e 0 := by
  apply Nat.eq_of_testBit_eq
  intro j
  rw [xor_bit, sd_bit, Nat.testBit_two_pow]
  by_cases h : d = j
  ·subst h; rw [if_pos rfl, hb]; simp
  ·simp [h]
 have h1 : idl P (sd (P.getD e 0) (2 ^ d)) = true := by
  rw [idl_iff]
  intro i hi hs j hj
  have hs' := (sb i).1 hs
  refine (sb j).2 ⟨below_trans hP hs'.1 hj, ?_⟩
  rintro rfl
  have := hk i hi hs'.1
  rw [this] at hj
  cases hj
 have h2 : idl P (sd (P.getD e 0) (2 ^ d) ^^^ 2 ^ e) = false := by
  cases h : idl P (sd (P.getD e 0) (2 ^ d) ^^^ 2 ^ e) with
  | false => rfl
  | true =>
   have hee : (P.getD e 0).testBit e = false := by
    cases h' : (P.getD e 0).testBit e with
    | false => rfl
    | true => have := (below_lt hP h').1; omega
   have hse : (sd (P.getD e 0) (2 ^ d)).testBit e = false := by rw [sd_bit, hee]; rfl
   have h3 := (idl_iff P _).1 h e he (by rw [xor_bit, if_pos rfl, hse]; rfl) d hb
   rw [xor_bit, if_neg (by omega), sb] at h3
   exact absurd rfl h3.2
 have h3 : idl P (P.getD e 0 ^^^ 2 ^ e) = true := by
  rw [idl_iff]
  intro i hi hs j hj
  have hji := (below_lt hP hj).1
  rw [xor_bit] at hs ⊢
  by_cases hie : e = i
  ·subst hie
   rw [if_neg (by omega)]
   exact hj
  ·rw [if_neg hie] at hs
   have hij := (below_lt hP hs).1
   rw [if_neg (by omega)]
   exact below_trans hP hs hj
 refine ⟨sd (P.getD e 0) (2 ^ d), sd_lt (hP.ltn e), h1, ?_⟩
 have t1 : tog P (sd (P.getD e 0) (2 ^ d)) d = P.getD e 0 := by
  unfold tog
  rw [hxd, row_idl hP, if_pos rfl]
 have t2 : tog P (sd (P.getD e 0) (2 ^ d)) e = sd (P.getD e 0) (2 ^ d) := by
  unfold tog
  rw [h2, if_neg (by decide)]
 have t3 : tog P (P.getD e 0) e = P.getD e 0 ^^^ 2 ^ e := by
  unfold tog
  rw [h3, if_pos rfl]
 rw [t1, t2, t1, t3]
 intro h
 have := congrArg (fun x => x.testBit e) h
 rw [xor_bit, if_pos rfl] at this
 cases h' : (P.getD e 0).testBit e <;> rw [h'] at this <;> cases this
end Go.Proofs.YtkadihmhaoghfaaDoor.B

namespace Go.Proofs.YtkadihmhaoghfaaDoor.B
open Go.RowKit Go.Proofs.YtkadihmhaoghfaaDoor.M Go.Proofs.YtkadihmhaoghfaaDoorW.PrintWords Go.Proofs.YtkadihmhaoghfaaDoorW.PrintLast Go.Proofs.YtkadihmhaoghfaaDoorW.PrintMore
attribute [local irreducible] Go.bits shl shr sd
def gcell (f : Nat → Nat → Bool) (j i : Nat) : List (List Int) := if f j i = true then [[(j : Int), (i : Int)]] else []
def grow (f : Nat → Nat → Bool) (n j i : Nat) : List (List Int) := (List.range' i (n - i)).flatMap (gcell f j)
def grid (f : Nat → Nat → Bool) (n j : Nat) : List (List Int) := (List.range' j (n - j)).flatMap (fun j => grow f n j 0)
theorem grow_end (f : Nat → Nat → Bool) (n j : Nat) : grow f n j n = [] := by unfold grow; simp
theorem grow_step (f : Nat → Nat → Bool) {n j i : Nat} (h : i < n) : grow f n j i = gcell f j i ++ grow f n j (i + 1) := by
 unfold grow
 obtain ⟨d, hd⟩ : ∃ d, n - i = d + 1 := ⟨n - i - 1, by omega⟩
 rw [hd, show n - (i + 1) = d by omega, List.range'_succ, List.flatMap_cons]
theorem grid_end (f : Nat → Nat → Bool) (n : Nat) : grid f n n = [] := by unfold grid; simp
theorem grid_step (f : Nat → Nat → Bool) {n j : Nat} (h : j < n) : grid f n j = grow f n j 0 ++ grid f n (j + 1) := by
 unfold grid
 obtain ⟨d, hd⟩ : ∃ d, n - j = d + 1 := ⟨n - j - 1, by omega⟩
 rw [hd, show n - (j + 1) = d by omega, List.range'_succ, List.flatMap_cons]
theorem mem_grid {f : Nat → Nat → Bool} {n : Nat} {c : List Int} (h : c ∈ grid f n 0) : ∃ j i : Nat, c = [(j : Int), (i : Int)] ∧ j < n ∧ i < n ∧ f j i = true := by
 unfold grid at h
 rw [List.mem_flatMap] at h
 obtain ⟨j, hj, h⟩ := h
 unfold grow at h
 rw [List.mem_flatMap] at h
 obtain ⟨i, hi, h⟩ := h
 rw [List.mem_range'_1] at hj hi
 unfold gcell at h
 split at h
 ·rename_i hc
  rw [List.mem_singleton] at h
  exact ⟨j, i, h, by omega, by omega, hc⟩
 ·cases h
theorem grid_length (f : Nat → Nat → Bool) {n : Nat} (hn : n ≤ 10) : (grid f n 0).length ≤ 100 := by
 have hc : ∀ j i, (gcell f j i).length ≤ 1 := by intro j i; unfold gcell; split <;> simp
 have hr : ∀ j (l : List Nat), (l.flatMap (gcell f j)).length ≤ l.length := by
  intro j l
  induction l with
  | nil => simp
  | cons x xs ih => rw [List.flatMap_cons, List.length_append, List.length_cons]; have := hc j x; omega
 have hw : ∀ (l : List Nat), (l.flatMap (fun j => grow f n j 0)).length ≤ 10 * l.length := by
  intro l
  induction l with
  | nil => simp
  | cons x xs ih =>
   rw [List.flatMap_cons, List.length_append, List.length_cons]
   have := hr x (List.range' 0 (n - 0))
   rw [List.length_range'] at this
   unfold grow at ih ⊢
   omega
 have := hw (List.range' 0 (n - 0))
 rw [List.length_range'] at this
 unfold grid
 omega
def covF (P : List Nat) (j i : Nat) : Bool := (cov P i).testBit j
theorem cov_from {l : List Int} {P : List Nat} (hP : Good l P) {i j : Nat} (hi : i < P.length) : (cov P i).testBit j = ((P.getD i 0).testBit j && allFrom (fun k => !((P.getD i 0).testBit k && (P.getD k 0).testBit j)) (j + 1) i) := by
 rw [Bool.eq_iff_iff, cov_bit, Bool.and_eq_true, allFrom_iff]
 constructor
 ·rintro ⟨h1, h2⟩
  refine ⟨h1, fun k hk hki => ?_⟩
  cases hb : (P.getD i 0).testBit k with
  | false => rfl
  | true => rw [h2 k (by omega) hb]; rfl
 ·rintro ⟨h1, h2⟩
  refine ⟨h1, fun k hk hb => ?_⟩
  cases hkj : (P.getD k 0).testBit j with
  | false => rfl
  | true =>
   have a := (below_lt hP hkj).1
   have b := (below_lt hP hb).1
   have := h2 k (by omega) b
   rw [hb, hkj] at this
   cases this
def rankAt (hs c : List Int) : Bool := decide (rd hs (rd c 1) = wrap64 (rd hs (rd c 0) + 1))
def idxL (p : List Int → Bool) : Nat → List (List Int) → Int
 | _, [] => -1
 | i, e :: es => if p e = true then (i : Int) else idxL p (i + 1) es
theorem idxL_any (p : List Int → Bool) : ∀ (o : List (List Int)) (i : Nat), decide (idxL p i o ≥ 0) = o.any p := by
 intro o
 induction o with
 | nil => intro i; rfl
 | cons e es ih =>
  intro i
  unfold idxL
  rw [List.any_cons]
  cases h : p e with
  | true => rw [if_pos rfl, Bool.true_or]; exact decide_eq_true (by omega)
  | false => rw [if_neg (by decide), Bool.false_or]; exact ih _
end Go.Proofs.YtkadihmhaoghfaaDoor.B

namespace Go.Proofs.YtkadihmhaoghfaaDoor.B
open Go.RowKit Go.Proofs.YtkadihmhaoghfaaDoor.M Go.Proofs.YtkadihmhaoghfaaDoorW.PrintWords Go.Proofs.YtkadihmhaoghfaaDoorW.PrintLast Go.Proofs.YtkadihmhaoghfaaDoorW.PrintMore
attribute [local irreducible] Go.bits shl shr sd
theorem poIn_is {s e : Nat} (he : e ≤ 64) : spec_poIn.f (s : Int) (e : Int) = some (s.testBit e) := by
 unfold spec_poIn.f
 rw [if_pos (by omega)]
 congr 1
 have := bit_tmod (s := s) he
 cases hb : s.testBit e
 ·rw [hb] at this; simpa using this
 ·rw [hb] at this; simpa using this
end Go.Proofs.YtkadihmhaoghfaaDoor.B

namespace Go.Proofs.YtkadihmhaoghfaaDoor.B
open Go.RowKit Go.Proofs.YtkadihmhaoghfaaDoor.M Go.Proofs.YtkadihmhaoghfaaDoorW.PrintWords Go.Proofs.YtkadihmhaoghfaaDoorW.PrintLast Go.Proofs.YtkadihmhaoghfaaDoorW.PrintMore
attribute [local irreducible] Go.bits shl shr sd
theorem poCovers_ev {l : List Int} {P : List Nat} (hP : Good l P) {i j : Nat} (hi : i < P.length) (hj : j < P.length) : Ev (fun k => spec_poCovers.f k l (j : Int) (i : Int)) (covF P j i) := by
 have hn := hP.n10
 have hl := hP.length
 have hr : ∀ x : Nat, rd l (x : Int) = ((P.getD x 0 : Nat) : Int) := fun x => by rw [hP.eq]; exact rd_cast P x
 have hb := poIn_is (s := P.getD i 0) (e := j) (by omega)
 unfold spec_poCovers.f covF
 rw [cov_from hP hi]
 cases hbit : (P.getD i 0).testBit j with
 | false => rw [Bool.false_and]; exact ev_as (Ev.now _) (fun k => by rw [if_pos (by omega), if_pos (by omega), hr, hb, hbit, Option.bind_some, if_neg (by decide)])
 | true =>
  rw [Bool.true_and]
  have hji := (below_lt hP hbit).1
  have H : ∀ (x : Nat) (_ : Unit), x ≤ i → True → Ev (fun k => spec_poCovers.l0 k (j : Int) (i : Int) (x : Int) l) (allFrom (fun k => !((P.getD i 0).testBit k && (P.getD k 0).testBit j)) x i) := by
   refine ev_down (fun k (_ : Unit) x => spec_poCovers.l0 k (j : Int) (i : Int) x l) (fun x _ => allFrom (fun k => !((P.getD i 0).testBit k && (P.getD k 0).testBit j)) x i) i (fun _ _ => True) ?_ ?_
   ·intro _ _
    rw [allFrom_end]
    exact ev_step (Ev.now _) (fun k => by simp only [spec_poCovers.l0]; rw [if_neg (by omega)])
   ·intro x _ hx _ ih
    have c1 : (x : Int) < (i : Int) := by omega
    have c2 : 0 ≤ (i : Int) := by omega
    have c3 : (i : Int) < (l.length : Int) := by omega
    have c4 : 0 ≤ (x : Int) := by omega
    have c5 : (x : Int) < (l.length : Int) := by omega
    have hw : wrap64 ((x : Int) + 1) = (x : Int) + 1 := wrap64_id (by omega) (by omega)
    have h1 := poIn_is (s := P.getD i 0) (e := x) (by omega)
    have h2 := poIn_is (s := P.getD x 0) (e := j) (by omega)
    rw [allFrom_step _ hx]
    cases b1 : (P.getD i 0).testBit x with
    | false =>
     rw [Bool.false_and, Bool.not_false, Bool.true_and]
     exact ev_step (ih () trivial) (fun k => by simp only [spec_poCovers.l0]; rw [if_pos c1, if_pos c2, if_pos c3, hr, h1, b1, Option.bind_some, if_neg (by decide), hw])
    | true =>
     cases b2 : (P.getD x 0).testBit j with
     | false =>
      rw [Bool.true_and, Bool.not_false, Bool.true_and]
      exact ev_step (ih () trivial) (fun k => by simp only [spec_poCovers.l0]; rw [if_pos c1, if_pos c2, if_pos c3, hr, h1, b1, Option.bind_some, if_pos rfl, if_pos c4, if_pos c5, hr, h2, b2, Option.bind_some, if_neg (by decide), hw])
     | true =>
      rw [Bool.true_and, Bool.not_true, Bool.false_and]
      exact ev_step (Ev.now _) (fun k => by simp only [spec_poCovers.l0]; rw [if_pos c1, if_pos c2, if_pos c3, hr, h1, b1, Option.bind_some, if_pos rfl, if_pos c4, if_pos c5, hr, h2, b2, Option.bind_some, if_pos rfl])
  have hw : wrap64 ((j : Int) + 1) = ((j + 1 : Nat) : Int) := by rw [wrap64_id (by omega) (by omega)]; omega
  exact ev_as (H (j + 1) () (by omega) trivial) (fun k => by rw [if_pos (by omega), if_pos (by omega), hr, hb, hbit, Option.bind_some, if_pos rfl, hw])
theorem poPairs_l1 {l : List Int} {P : List Nat} (hP : Good l P) {j : Nat} (hj : j < P.length) (fin : List (List Int) → List (List Int)) (hnext : ∀ w : List (List Int), w.length ≤ 10 * (j + 1) → Ev (fun k => spec_poPairs.l0 k w (l.length : Int) ((j : Int) + 1) l) (fin w)) :
  ∀ (i : Nat) (w : List (List Int)), i ≤ P.length → w.length ≤ 10 * j + i → Ev (fun k => spec_poPairs.l1 k w (j : Int) (l.length : Int) (j : Int) (l.length : Int) (i : Int) l) (fin (w ++ grow (covF P) P.length j i)) := by
 have hn := hP.n10
 have hl := hP.length
 refine ev_down (fun k (w : List (List Int)) i => spec_poPairs.l1 k w (j : Int) (l.length : Int) (j : Int) (l.length : Int) i l) (fun i w => fin (w ++ grow (covF P) P.length j i)) P.length (fun i w => w.length ≤ 10 * j + i) ?_ ?_
 ·intro w hw
  rw [grow_end, List.append_nil]
  have hw2 : wrap64 ((j : Int) + 1) = (j : Int) + 1 := wrap64_id (by omega) (by omega)
  exact ev_step (hnext w (by omega)) (fun k => by simp only [spec_poPairs.l1]; rw [if_neg (by omega), hw2])
 ·intro i w hi hw ih
  have c1 : (i : Int) < (l.length : Int) := by omega
  have c2 : w.length < 5864062014805 := by omega
  have hw2 : wrap64 ((i : Int) + 1) = (i : Int) + 1 := wrap64_id (by omega) (by omega)
  rw [grow_step _ hi]
  unfold gcell
  refine ev_stepb (poCovers_ev hP hi hj) ?_ (fun k => by simp only [spec_poPairs.l1]; rw [if_pos c1])
  cases hc : covF P j i with
  | true =>
   rw [if_pos rfl]
   have := ih (w ++ [[(j : Int), (i : Int)]]) (by rw [List.length_append, List.length_singleton]; omega)
   rw [List.append_assoc] at this
   exact ev_as this (fun k => by rw [if_pos rfl, if_pos c2, hw2])
  | false =>
   rw [if_neg (by decide), List.nil_append]
   exact ev_as (ih w (by omega)) (fun k => by rw [if_neg (by decide), hw2])
theorem poPairs_ev {l : List Int} {P : List Nat} (hP : Good l P) : Ev (fun k => spec_poPairs.f k l) (grid (covF P) P.length 0) := by
 have hn := hP.n10
 have hl := hP.length
 have H : ∀ (j : Nat) (w : List (List Int)), j ≤ P.length → w.length ≤ 10 * j → Ev (fun k => spec_poPairs.l0 k w (l.length : Int) (j : Int) l) (w ++ grid (covF P) P.length j) := by
  refine ev_down (fun k (w : List (List Int)) j => spec_poPairs.l0 k w (l.length : Int) j l) (fun j w => w ++ grid (covF P) P.length j) P.length (fun j w => w.length ≤ 10 * j) ?_ ?_
  ·intro w _
   rw [grid_end, List.append_nil]
   exact ev_step (Ev.now _) (fun k => by simp only [spec_poPairs.l0]; rw [if_neg (by omega)])
  ·intro j w hj hw ih
   have c1 : (j : Int) < (l.length : Int) := by omega
   rw [grid_step _ hj, ← List.append_assoc]
   have := poPairs_l1 hP hj (fun w => w ++ grid (covF P) P.length (j + 1)) (fun w hw => ih w (by omega)) 0 w (by omega) (by omega)
   exact ev_step this (fun k => by simp only [spec_poPairs.l0]; rw [if_pos c1]; rfl)
 unfold spec_poPairs.f
 have := H 0 [] (by omega) (by simp)
 rwa [List.nil_append] at this
end Go.Proofs.YtkadihmhaoghfaaDoor.B

namespace Go.Proofs.YtkadihmhaoghfaaDoor.B
open Go.RowKit Go.Proofs.YtkadihmhaoghfaaDoor.M Go.Proofs.YtkadihmhaoghfaaDoorW.PrintWords Go.Proofs.YtkadihmhaoghfaaDoorW.PrintLast Go.Proofs.YtkadihmhaoghfaaDoorW.PrintMore
attribute [local irreducible] Go.bits shl shr sd
theorem cov_l0 {l : List Int} {P : List Nat} (hP : Good l P) {s : Nat} (hs : s < 2 ^ P.length) : ∀ (e : Nat) (st : Nat), e ≤ (items s).length → st < 2 ^ P.length →
  Ev (fun k => impl_Poset_covered.l0 k (st : Int) (cast (items s)) ((cast (items s)).length : Int) (e : Int) l) ((((items s).drop e).foldl (fun o i => sd o (P.getD i 0)) st : Nat) : Int) := by
 have hn := hP.n10
 have hlen : (items s).length ≤ 10 := by unfold items; exact Nat.le_trans (List.length_filter_le _ _) (by simp)
 refine ev_down (fun k (st : Nat) e => impl_Poset_covered.l0 k (st : Int) (cast (items s)) ((cast (items s)).length : Int) e l) (fun e st => ((((items s).drop e).foldl (fun o i => sd o (P.getD i 0)) st : Nat) : Int)) (items s).length (fun _ st => st < 2 ^ P.length) ?_ ?_
 ·intro st _
  rw [List.drop_length, List.foldl_nil]
  exact ev_step (Ev.now _) (fun k => by simp only [impl_Poset_covered.l0]; rw [if_neg (by rw [cast_length]; omega)])
 ·intro e st he hst ih
  obtain ⟨j, hj⟩ : ∃ j, (items s).getD e 0 = j := ⟨_, rfl⟩
  have hmem : j ∈ items s := by rw [← hj]; exact getD_memN he
  have hjn : j < P.length := bit_lt hs (mem_items.1 hmem).2
  have hl := hP.length
  have c1 : (e : Int) < ((cast (items s)).length : Int) := by rw [cast_length]; omega
  have c2 : 0 ≤ (e : Int) := by omega
  have c4 : 0 ≤ (j : Int) := by omega
  have c5 : (j : Int) < (l.length : Int) := by omega
  have hw : wrap64 ((e : Int) + 1) = (e : Int) + 1 := wrap64_id (by omega) (by omega)
  have ho := andNot_nat (p63 hst (by omega)) (hP.lt63 j)
  rw [drop_step (items s) 0 he, hj, List.foldl_cons]
  refine ev_step (ih (sd st (P.getD j 0)) (sd_lt hst)) (fun k => ?_)
  simp only [impl_Poset_covered.l0]
  rw [if_pos c1, if_pos c2, if_pos c1, rd_cast, hj, if_pos c4, if_pos c5, hw]
  conv => lhs; rw [hP.eq, rd_cast]
  rw [ho, ← hP.eq]
theorem covered_ev {l : List Int} {P : List Nat} (hP : Good l P) {i : Nat} (hi : i < P.length) : Ev (fun k => impl_Poset_covered.f k l (i : Int)) ((cov P i : Nat) : Int) := by
 have hn := hP.n10
 have hl := hP.length
 have hr : rd l (i : Int) = ((P.getD i 0 : Nat) : Int) := by rw [hP.eq, rd_cast]
 unfold impl_Poset_covered.f
 refine ev_bind (items_ev (hP.lt63 i)) ?_ (fun k => by rw [if_pos (by omega), if_pos (by omega), hr])
 have := cov_l0 hP (hP.ltn i) 0 (P.getD i 0) (by omega) (hP.ltn i)
 rw [List.drop_zero, fold_items _ (hP.ltn i) (by omega)] at this
 exact this
end Go.Proofs.YtkadihmhaoghfaaDoor.B

namespace Go.Proofs.YtkadihmhaoghfaaDoor.B
open Go.RowKit Go.Proofs.YtkadihmhaoghfaaDoor.M Go.Proofs.YtkadihmhaoghfaaDoorW.PrintWords Go.Proofs.YtkadihmhaoghfaaDoorW.PrintLast Go.Proofs.YtkadihmhaoghfaaDoorW.PrintMore
attribute [local irreducible] Go.bits shl shr sd
theorem covers_l1 {l : List Int} {P : List Nat} (hP : Good l P) {j : Nat} (hj : j < P.length) (fin : List (List Int) → List (List Int)) (hnext : ∀ w : List (List Int), w.length ≤ 10 * (j + 1) → Ev (fun k => impl_Poset_covers.l0 k w (l.length : Int) ((j : Int) + 1) l) (fin w)) :
  ∀ (i : Nat) (w : List (List Int)), i ≤ P.length → w.length ≤ 10 * j + i → Ev (fun k => impl_Poset_covers.l1 k w (j : Int) (l.length : Int) (j : Int) (l.length : Int) (i : Int) l) (fin (w ++ grow (covF P) P.length j i)) := by
 have hn := hP.n10
 have hl := hP.length
 refine ev_down (fun k (w : List (List Int)) i => impl_Poset_covers.l1 k w (j : Int) (l.length : Int) (j : Int) (l.length : Int) i l) (fun i w => fin (w ++ grow (covF P) P.length j i)) P.length (fun i w => w.length ≤ 10 * j + i) ?_ ?_
 ·intro w hw
  rw [grow_end, List.append_nil]
  have hw2 : wrap64 ((j : Int) + 1) = (j : Int) + 1 := wrap64_id (by omega) (by omega)
  exact ev_step (hnext w (by omega)) (fun k => by simp only [impl_Poset_covers.l1]; rw [if_neg (by omega), hw2])
 ·intro i w hi hw ih
  have c1 : (i : Int) < (l.length : Int) := by omega
  have c2 : w.length < 5864062014805 := by omega
  have hw2 : wrap64 ((i : Int) + 1) = (i : Int) + 1 := wrap64_id (by omega) (by omega)
  have hh := has_is (s := cov P i) (e := j) (p63 (tp_lt (hP.ltn i)) (by omega)) (by omega)
  rw [grow_step _ hi]
  unfold gcell
  refine ev_stepb (covered_ev hP hi) ?_ (fun k => by simp only [impl_Poset_covers.l1]; rw [if_pos c1])
  have hh' : impl_has.f ((cov P i : Nat) : Int) (j : Int) = some (covF P j i) := hh
  cases hc : covF P j i with
  | true =>
   rw [if_pos rfl]
   have := ih (w ++ [[(j : Int), (i : Int)]]) (by rw [List.length_append, List.length_singleton]; omega)
   rw [List.append_assoc] at this
   exact ev_as this (fun k => by rw [hh', hc, Option.bind_some, if_pos rfl, if_pos c2, hw2])
  | false =>
   rw [if_neg (by decide), List.nil_append]
   exact ev_as (ih w (by omega)) (fun k => by rw [hh', hc, Option.bind_some, if_neg (by decide), hw2])
theorem covers_ev {l : List Int} {P : List Nat} (hP : Good l P) : Ev (fun k => impl_Poset_covers.f k l) (grid (covF P) P.length 0) := by
 have hn := hP.n10
 have hl := hP.length
 have H : ∀ (j : Nat) (w : List (List Int)), j ≤ P.length → w.length ≤ 10 * j → Ev (fun k => impl_Poset_covers.l0 k w (l.length : Int) (j : Int) l) (w ++ grid (covF P) P.length j) := by
  refine ev_down (fun k (w : List (List Int)) j => impl_Poset_covers.l0 k w (l.length : Int) j l) (fun j w => w ++ grid (covF P) P.length j) P.length (fun j w => w.length ≤ 10 * j) ?_ ?_
  ·intro w _
   rw [grid_end, List.append_nil]
   exact ev_step (Ev.now _) (fun k => by simp only [impl_Poset_covers.l0]; rw [if_neg (by omega)])
  ·intro j w hj hw ih
   have c1 : (j : Int) < (l.length : Int) := by omega
   rw [grid_step _ hj, ← List.append_assoc]
   have := covers_l1 hP hj (fun w => w ++ grid (covF P) P.length (j + 1)) (fun w hw => ih w (by omega)) 0 w (by omega) (by omega)
   exact ev_step this (fun k => by simp only [impl_Poset_covers.l0, impl_Poset_n.f]; rw [if_pos c1, Option.bind_some]; rfl)
 unfold impl_Poset_covers.f impl_Poset_n.f
 simp only [Option.bind_some]
 have := H 0 [] (by omega) (by simp)
 rwa [List.nil_append] at this
end Go.Proofs.YtkadihmhaoghfaaDoor.B

namespace Go.Proofs.YtkadihmhaoghfaaDoor.B
open Go.RowKit Go.Proofs.YtkadihmhaoghfaaDoor.M Go.Proofs.YtkadihmhaoghfaaDoorW.PrintWords Go.Proofs.YtkadihmhaoghfaaDoorW.PrintLast Go.Proofs.YtkadihmhaoghfaaDoorW.PrintMore
attribute [local irreducible] Go.bits shl shr sd
def dig (n : Nat) : ByteArray := if n < 10 then ⟨#[UInt8.ofNat (48 + n)]⟩ else ⟨#[UInt8.ofNat (48 + n / 10), UInt8.ofNat (48 + n % 10)]⟩
theorem num_all : ∀ n : Fin 11, spec_l1Num.f 5 ((n.val : Nat) : Int) = some (dig n.val) := by decide +kernel
theorem num_ev {n : Nat} (h : n ≤ 10) : Ev (fun k => spec_l1Num.f k (n : Int)) (dig n) := Ev.of (fun k => spec_l1Num.mono _ k) (num_all ⟨n, by omega⟩)
theorem itoa_is {n : Nat} (h : n < 100) : strconv_Itoa_35.f (n : Int) = some (dig n) := by
 unfold strconv_Itoa_35.f
 rw [if_pos (by omega), if_pos (by omega), Int.toNat_natCast]
 unfold dig
 by_cases c : n < 10
 ·rw [if_pos c, Lib.decDigits_one c]
 ·rw [if_neg c, Lib.decDigits_two c h]
theorem dig_size (n : Nat) : (dig n).size ≤ 2 ∧ 1 ≤ (dig n).size := by
 unfold dig
 split
 ·exact ⟨(by show 1 ≤ 2; decide), (by show 1 ≤ 1; decide)⟩
 ·exact ⟨(by show 2 ≤ 2; decide), (by show 1 ≤ 2; decide)⟩
theorem lit1 (b : UInt8) : (⟨#[b]⟩ : ByteArray).size = 1 := rfl
def part (c : List Int) : ByteArray := (dig (c.getD 0 0).toNat ++ (⟨#[60]⟩ : ByteArray)) ++ dig (c.getD 1 0).toNat
theorem part_size (c : List Int) : (part c).size ≤ 5 ∧ 1 ≤ (part c).size := by
 unfold part
 rw [ByteArray.size_append, ByteArray.size_append, lit1]
 have := dig_size (c.getD 0 0).toNat
 have := dig_size (c.getD 1 0).toNat
 omega
def sj (xs : List ByteArray) : ByteArray := ⟨(Lib.join (xs.map (·.data.toList)) ((⟨#[44]⟩ : ByteArray).data.toList)).toArray⟩
theorem sj_one (y : ByteArray) : sj [y] = y := by
 unfold sj
 rw [List.map_cons, List.map_nil, Lib.join_one]
theorem bytes_ext {a b : ByteArray} (h : a.data.toList = b.data.toList) : a = b := ByteArray.ext (Array.toList_inj.1 h)
theorem nil_app (y : ByteArray) : (⟨#[]⟩ : ByteArray) ++ y = y := bytes_ext (by rw [ByteArray.data_append, Array.toList_append]; rfl)
theorem sj_nil : sj [] = (⟨#[]⟩ : ByteArray) := rfl
theorem sj_snoc (xs : List ByteArray) (h : xs ≠ []) (y : ByteArray) : sj (xs ++ [y]) = (sj xs ++ (⟨#[44]⟩ : ByteArray)) ++ y := by
 cases xs with
 | nil => exact absurd rfl h
 | cons x r =>
  apply bytes_ext
  rw [ByteArray.data_append, ByteArray.data_append, Array.toList_append, Array.toList_append]
  unfold sj
  simp only [List.cons_append, List.map_cons, List.map_append, List.map_nil, Lib.join_cons, Lib.joinTail, List.flatten_append, List.flatten_cons, List.flatten_nil, List.append_nil, List.append_assoc]
theorem sj_bounds (R : List (List Int)) : ∀ i, i ≤ R.length → (sj ((R.map part).take i)).size ≤ 6 * i ∧ i ≤ (sj ((R.map part).take i)).size
 | 0, _ => by rw [List.take_zero]; decide
 | i + 1, h => by
  have ih := sj_bounds R i (by omega)
  have hi : i < (R.map part).length := by rw [List.length_map]; omega
  have hp := part_size (R[i]'(by omega))
  rw [List.take_succ_eq_append_getElem hi, List.getElem_map]
  by_cases h0 : i = 0
  ·subst h0
   rw [List.take_zero, List.nil_append, sj_one]
   omega
  ·rw [sj_snoc _ (by intro he; have := congrArg List.length he; rw [List.length_take] at this; rw [List.length_nil] at this; omega), ByteArray.size_append, ByteArray.size_append, lit1]
   omega
def text (R : List (List Int)) (n : Nat) : ByteArray := (dig n ++ (⟨#[58]⟩ : ByteArray)) ++ (if R = [] then (⟨#[45]⟩ : ByteArray) else sj (R.map part))
def Pairs (R : List (List Int)) : Prop := ∀ c ∈ R, ∃ j i : Nat, c = [(j : Int), (i : Int)] ∧ j ≤ 10 ∧ i ≤ 10
theorem pair_at {R : List (List Int)} (hR : Pairs R) {i : Nat} (hi : i < R.length) : ∃ a b : Nat, rd_L1 R (i : Int) = [(a : Int), (b : Int)] ∧ a ≤ 10 ∧ b ≤ 10 ∧ R[i] = [(a : Int), (b : Int)] := by
 obtain ⟨a, b, h, h1, h2⟩ := hR _ (List.getElem_mem hi)
 refine ⟨a, b, ?_, h1, h2, h⟩
 unfold rd_L1
 rw [Int.toNat_natCast, List.getD_eq_getElem?_getD, List.getElem?_eq_getElem hi, Option.getD_some, h]
theorem take_next {R : List (List Int)} {i : Nat} (hi : i < R.length) : (R.map part).take (i + 1) = (R.map part).take i ++ [part R[i]] := by
 rw [List.take_succ_eq_append_getElem (by rw [List.length_map]; omega), List.getElem_map]
theorem poText_l0 {R : List (List Int)} (hR : Pairs R) (hm : R.length ≤ 100) {l : List Int} (hl : l.length ≤ 10) : ∀ (d i : Nat), i + d = R.length → Ev (fun k => spec_poText.l0 k (sj ((R.map part).take i)) R (R.length : Int) (i : Int) l) (text R l.length)
 | 0, i, h => by
  have hb := sj_bounds R i (by omega)
  have ht : (R.map part).take i = R.map part := List.take_of_length_le (by rw [List.length_map]; omega)
  have hd := dig_size l.length
  have hs : (sj ((R.map part).take i)).toList = ([] : List UInt8) ↔ R = [] := by
   rw [Lib.toList_data]
   constructor
   ·intro he
    have he2 := congrArg List.length he
    rw [Array.length_toList, List.length_nil] at he2
    have he3 : (sj ((R.map part).take i)).size = 0 := he2
    exact List.length_eq_zero_iff.1 (by omega)
   ·rintro rfl
    rw [ht]
    rfl
  unfold text
  by_cases h0 : R = []
  ·rw [if_pos h0]
   refine ev_stepb (num_ev hl) ?_ (fun k => by
    simp only [spec_poText.l0]
    rw [if_neg (by omega), if_pos (hs.2 h0)])
   exact ev_as (Ev.now _) (fun k => by rw [if_pos (by omega), if_pos (by rw [ByteArray.size_append, lit1]; omega)])
  ·rw [if_neg h0]
   refine ev_stepb (num_ev hl) ?_ (fun k => by
    simp only [spec_poText.l0]
    rw [if_neg (by omega), if_neg (fun he => h0 (hs.1 he))])
   exact ev_as (Ev.now _) (fun k => by rw [if_pos (by omega), if_pos (by rw [ByteArray.size_append, lit1]; omega), ht])
 | d + 1, i, h => by
  have hi : i < R.length := by omega
  have hb := sj_bounds R i (by omega)
  obtain ⟨a, b, hc, ha, hbb, hg⟩ := pair_at hR hi
  have hda := dig_size a
  have hdb := dig_size b
  have hw : wrap64 ((i : Int) + 1) = ((i + 1 : Nat) : Int) := by rw [wrap64_id (by omega) (by omega)]; rfl
  have ih := poText_l0 hR hm hl d (i + 1) (by omega)
  have hpart : part R[i] = (dig a ++ (⟨#[60]⟩ : ByteArray)) ++ dig b := by rw [hg]; rfl
  have z0 : rd [(a : Int), (b : Int)] 0 = (a : Int) := rfl
  have z1 : rd [(a : Int), (b : Int)] 1 = (b : Int) := rfl
  have hsz : ((dig a ++ (⟨#[60]⟩ : ByteArray)) ++ dig b).size ≤ 5 := by rw [ByteArray.size_append, ByteArray.size_append, lit1]; omega
  by_cases h0 : i = 0
  ·subst h0
   have hx : sj ((R.map part).take (0 + 1)) = sj ((R.map part).take 0) ++ ((dig a ++ (⟨#[60]⟩ : ByteArray)) ++ dig b) := by
    rw [take_next hi, hpart, List.take_zero, List.nil_append, sj_one, sj_nil, nil_app]
   rw [hx] at ih
   refine ev_stepb (num_ev ha) ?_ (fun k => by
    simp only [spec_poText.l0]
    rw [if_pos (by omega), if_pos (by omega), if_pos (by omega), if_neg (by omega), hc, if_pos (by simp), z0])
   refine ev_bind (num_ev hbb) ?_ (fun k => by rw [if_pos (by omega), if_pos (by simp), z1])
   exact ev_as ih (fun k => by rw [if_pos (by rw [ByteArray.size_append, lit1]; omega), if_pos (by omega), hw])
  ·have hx : sj ((R.map part).take (i + 1)) = (sj ((R.map part).take i) ++ (⟨#[44]⟩ : ByteArray)) ++ ((dig a ++ (⟨#[60]⟩ : ByteArray)) ++ dig b) := by
    rw [take_next hi, hpart, sj_snoc _ (by intro he; have := congrArg List.length he; rw [List.length_take, List.length_map, List.length_nil] at this; omega)]
   rw [hx] at ih
   refine ev_stepb (num_ev ha) ?_ (fun k => by
    simp only [spec_poText.l0]
    rw [if_pos (by omega), if_pos (by omega), if_pos (by omega), if_pos (by omega), if_pos (by omega), hc, if_pos (by simp), z0])
   refine ev_bind (num_ev hbb) ?_ (fun k => by rw [if_pos (by omega), if_pos (by simp), z1])
   exact ev_as ih (fun k => by rw [if_pos (by rw [ByteArray.size_append, lit1]; omega), if_pos (by rw [ByteArray.size_append, lit1]; omega), hw])
theorem poText_ev {l : List Int} {P : List Nat} (hP : Good l P) : Ev (fun k => spec_poText.f k l) (text (grid (covF P) P.length 0) l.length) := by
 have hn := hP.n10
 have hl := hP.length
 have hR : Pairs (grid (covF P) P.length 0) := fun c hc => by
  obtain ⟨j, i, he, h1, h2, _⟩ := mem_grid hc
  exact ⟨j, i, he, by omega, by omega⟩
 unfold spec_poText.f
 exact Ev.bind (poPairs_ev hP) (poText_l0 hR (grid_length _ hn) (by omega) _ 0 (Nat.zero_add _))
theorem text_l0 {R : List (List Int)} (hR : Pairs R) (hm : R.length ≤ 100) {l : List Int} (hl : l.length ≤ 10) : ∀ (d i : Nat), i + d = R.length → Ev (fun k => impl_Poset_text.l0 k ((R.map part).take i) R (R.length : Int) (i : Int) l) (text R l.length)
 | 0, i, h => by
  have hb := sj_bounds R i (by omega)
  have ht : (R.map part).take i = R.map part := List.take_of_length_le (by rw [List.length_map]; omega)
  have hd := dig_size l.length
  have hn : impl_Poset_n.f l = some (l.length : Int) := rfl
  have hlen : ((R.map part).take i).length = R.length := by rw [ht, List.length_map]
  unfold text
  by_cases h0 : R = []
  ·rw [if_pos h0]
   have hj : strings_Join.f [(⟨#[45]⟩ : ByteArray)] (⟨#[44]⟩ : ByteArray) = some (⟨#[45]⟩ : ByteArray) := by
    unfold strings_Join.f
    rw [if_pos (by decide), if_pos (by rw [List.map_cons, List.map_nil, Lib.join_one]; decide)]
    exact congrArg some (sj_one _)
   have hl0 : R.length = 0 := by rw [h0]; rfl
   refine ev_step (f := fun _ => some ((dig l.length ++ (⟨#[58]⟩ : ByteArray)) ++ (⟨#[45]⟩ : ByteArray))) (Ev.now _) (fun k => by
    simp only [impl_Poset_text.l0]
    rw [if_neg (by omega), if_pos (by omega), hn, Option.bind_some, itoa_is (by omega), Option.bind_some, if_pos (by omega), hj, Option.bind_some, if_pos (by rw [ByteArray.size_append, lit1]; have : (⟨#[45]⟩ : ByteArray).size = 1 := rfl; omega)])
  ·rw [if_neg h0]
   have hl0 : R.length ≠ 0 := fun e => h0 (List.length_eq_zero_iff.1 e)
   have hj : strings_Join.f (R.map part) (⟨#[44]⟩ : ByteArray) = some (sj (R.map part)) := by
    rw [ht] at hb
    unfold strings_Join.f
    rw [if_pos (by rw [List.length_map]; omega), if_pos (by
     have h1 : (Lib.join ((R.map part).map (·.data.toList)) ((⟨#[44]⟩ : ByteArray).data.toList)).length = (sj (R.map part)).size := rfl
     rw [h1]
     omega)]
    rfl
   rw [ht] at hb hlen ⊢
   refine ev_step (f := fun _ => some ((dig l.length ++ (⟨#[58]⟩ : ByteArray)) ++ sj (R.map part))) (Ev.now _) (fun k => by
    simp only [impl_Poset_text.l0]
    rw [if_neg (by omega), if_neg (by omega), hn, Option.bind_some, itoa_is (by omega), Option.bind_some, if_pos (by omega), hj, Option.bind_some, if_pos (by rw [ByteArray.size_append, lit1]; omega)])
 | d + 1, i, h => by
  have hi : i < R.length := by omega
  obtain ⟨a, b, hc, ha, hbb, hg⟩ := pair_at hR hi
  have hda := dig_size a
  have hdb := dig_size b
  have hw : wrap64 ((i : Int) + 1) = ((i + 1 : Nat) : Int) := by rw [wrap64_id (by omega) (by omega)]; rfl
  have ih := text_l0 hR hm hl d (i + 1) (by omega)
  have hpart : part R[i] = (dig a ++ (⟨#[60]⟩ : ByteArray)) ++ dig b := by rw [hg]; rfl
  have z0 : rd [(a : Int), (b : Int)] 0 = (a : Int) := rfl
  have z1 : rd [(a : Int), (b : Int)] 1 = (b : Int) := rfl
  have hlen : ((R.map part).take i).length = i := by rw [List.length_take, List.length_map]; omega
  rw [take_next hi, hpart] at ih
  exact ev_step ih (fun k => by
   simp only [impl_Poset_text.l0]
   rw [if_pos (by omega), if_pos (by omega), if_pos (by omega), hc, if_pos (by simp), z0, itoa_is (by omega), Option.bind_some, if_pos (by omega), if_pos (by simp), z1, itoa_is (by omega), Option.bind_some, if_pos (by rw [ByteArray.size_append, lit1]; omega), if_pos (by omega), hw])
theorem text_ev {l : List Int} {P : List Nat} (hP : Good l P) : Ev (fun k => impl_Poset_text.f k l) (text (grid (covF P) P.length 0) l.length) := by
 have hn := hP.n10
 have hl := hP.length
 have hR : Pairs (grid (covF P) P.length 0) := fun c hc => by
  obtain ⟨j, i, he, h1, h2, _⟩ := mem_grid hc
  exact ⟨j, i, he, by omega, by omega⟩
 unfold impl_Poset_text.f
 exact Ev.bind (covers_ev hP) (text_l0 hR (grid_length _ hn) (by omega) _ 0 (Nat.zero_add _))
end Go.Proofs.YtkadihmhaoghfaaDoor.B

namespace Go.Proofs.YtkadihmhaoghfaaDoor.B
open Go.RowKit Go.Proofs.YtkadihmhaoghfaaDoor.M Go.Proofs.YtkadihmhaoghfaaDoorW.PrintWords Go.Proofs.YtkadihmhaoghfaaDoorW.PrintLast Go.Proofs.YtkadihmhaoghfaaDoorW.PrintMore
def glue (p : List UInt8) : List (List UInt8) → List (List UInt8)
 | [] => [p]
 | h :: t => (p ++ h) :: t
def sp (c : UInt8) : List UInt8 → List (List UInt8)
 | [] => [[]]
 | b :: t => if b = c then [] :: sp c t else glue [b] (sp c t)
theorem sp_ne (c : UInt8) (l : List UInt8) : sp c l ≠ [] := by
 cases l with
 | nil => simp [sp]
 | cons b t =>
  unfold sp
  split
  ·simp
  ·cases sp c t <;> simp [glue]
theorem glue_nil {S : List (List UInt8)} (h : S ≠ []) : glue [] S = S := by
 cases S with
 | nil => exact absurd rfl h
 | cons x t => rfl
theorem glue_glue (p q : List UInt8) (S : List (List UInt8)) : glue p (glue q S) = glue (p ++ q) S := by
 cases S with
 | nil => rfl
 | cons x t => simp [glue]
theorem sp_no {c : UInt8} : ∀ {s : List UInt8}, c ∉ s → sp c s = [s]
 | [], _ => rfl
 | b :: t, h => by
  have hb : b ≠ c := fun e => h (by rw [e]; exact List.mem_cons_self)
  unfold sp
  rw [if_neg hb, sp_no (fun hm => h (List.mem_cons_of_mem _ hm))]
  rfl
theorem sp_hit {c : UInt8} (r : List UInt8) : ∀ {p : List UInt8}, c ∉ p → sp c (p ++ c :: r) = p :: sp c r
 | [], _ => by rw [List.nil_append, sp, if_pos rfl]
 | b :: t, h => by
  have hb : b ≠ c := fun e => h (by rw [e]; exact List.mem_cons_self)
  rw [List.cons_append, sp, if_neg hb, sp_hit r (fun hm => h (List.mem_cons_of_mem _ hm))]
  rfl
theorem sp_join {c : UInt8} : ∀ {xs : List (List UInt8)}, xs ≠ [] → (∀ x ∈ xs, c ∉ x) → sp c (Lib.join xs [c]) = xs
 | [], h, _ => absurd rfl h
 | [x], _, h => by rw [Lib.join_one, sp_no (h x List.mem_cons_self)]
 | x :: y :: t, _, h => by
  have e : Lib.join (x :: y :: t) [c] = x ++ c :: Lib.join (y :: t) [c] := by
   rw [Lib.join_cons, Lib.join_cons]
   simp [Lib.joinTail]
  rw [e, sp_hit _ (h x List.mem_cons_self), sp_join (by simp) (fun z hz => h z (List.mem_cons_of_mem _ hz))]
theorem idx_no {c : UInt8} : ∀ {s : List UInt8}, c ∉ s → Lib.index s [c] = -1
 | [], _ => rfl
 | b :: t, h => by
  have hb : c ≠ b := fun e => h (by rw [e]; exact List.mem_cons_self)
  rw [Lib.index, if_neg (by simp [List.isPrefixOf, hb]), idx_no (fun hm => h (List.mem_cons_of_mem _ hm))]
  rfl
theorem idx_hit {c : UInt8} (r : List UInt8) : ∀ {p : List UInt8}, c ∉ p → Lib.index (p ++ c :: r) [c] = (p.length : Int)
 | [], _ => by rw [List.nil_append, Lib.index, if_pos (by simp [List.isPrefixOf])]; rfl
 | b :: t, h => by
  have hb : c ≠ b := fun e => h (by rw [e]; exact List.mem_cons_self)
  rw [List.cons_append, Lib.index, if_neg (by simp [List.isPrefixOf, hb]), idx_hit r (fun hm => h (List.mem_cons_of_mem _ hm)), if_neg (by simp), List.length_cons]
  omega
theorem drop_hit {c : UInt8} (p r : List UInt8) : (p ++ c :: r).drop (p.length + 1) = r := by
 rw [show p ++ c :: r = (p ++ [c]) ++ r by simp, List.drop_left' (by simp)]
theorem cut_hit {c : UInt8} {p : List UInt8} (r : List UInt8) (h : c ∉ p) : Lib.cut (p ++ c :: r) [c] = (p, r, true) := by
 unfold Lib.cut
 rw [idx_hit r h, if_pos (by omega), Int.toNat_natCast, List.length_singleton, drop_hit, List.take_left]
theorem first_at (c : UInt8) : ∀ s : List UInt8, c ∉ s ∨ ∃ p r, s = p ++ c :: r ∧ c ∉ p
 | [] => .inl (by simp)
 | b :: t => by
  by_cases hb : b = c
  ·exact .inr ⟨[], t, by rw [hb]; rfl, by simp⟩
  ·rcases first_at c t with h | ⟨p, r, e, h⟩
   ·exact .inl (fun hm => by rcases List.mem_cons.1 hm with q | q; exact hb q.symm; exact h q)
   ·exact .inr ⟨b :: p, r, by rw [e]; rfl, fun hm => by rcases List.mem_cons.1 hm with q | q; exact hb q.symm; exact h q⟩
theorem splitK_sp (c : UInt8) : ∀ (n : Nat) (s : List UInt8), s.length ≤ n → Lib.splitK [c] 0 (Lib.count s [c]) s = sp c s
 | n, s, hn => by
  rcases first_at c s with h | ⟨p, r, rfl, hp⟩
  ·rw [Lib.count_miss (idx_no h), sp_no h]
   rfl
  ·cases n with
   | zero => simp at hn
   | succ n =>
    rw [Lib.count_hit (by simp) (idx_hit r hp), List.length_singleton, drop_hit, Nat.add_comm 1, Lib.splitK, if_neg (by rw [idx_hit r hp]; simp), idx_hit r hp, Int.toNat_natCast, List.length_singleton, drop_hit, Nat.add_zero, List.take_left, sp_hit r hp]
    rw [splitK_sp c n r (by simp at hn; omega)]
theorem splitB_sp (c : UInt8) (s : ByteArray) : (Lib.splitB ⟨#[c]⟩ 0 (Lib.countB s ⟨#[c]⟩) s).map (·.data.toList) = sp c s.data.toList := by
 rw [Lib.splitB_data]
 exact splitK_sp c _ s.data.toList (Nat.le_refl _)
end Go.Proofs.YtkadihmhaoghfaaDoor.B

namespace Go.Proofs.YtkadihmhaoghfaaDoor.B
open Go.RowKit Go.Proofs.YtkadihmhaoghfaaDoor.M Go.Proofs.YtkadihmhaoghfaaDoorW.PrintWords Go.Proofs.YtkadihmhaoghfaaDoorW.PrintLast Go.Proofs.YtkadihmhaoghfaaDoorW.PrintMore
attribute [local irreducible] Go.bits shl shr sd
def mk (l : List UInt8) : ByteArray := ⟨l.toArray⟩
theorem mk_data (a : ByteArray) : mk a.data.toList = a := rfl
theorem ext_mk (a : ByteArray) (f i : Nat) : a.extract f i = mk ((a.data.toList.take i).drop f) := by
 apply ByteArray.ext
 rw [ByteArray.data_extract]
 apply Array.toList_inj.1
 rw [Array.toList_extract]
 unfold mk
 simp only [List.extract]
 rw [List.drop_take]
theorem bt_eq {a : ByteArray} {i : Nat} (h : i < a.data.toList.length) (c : UInt8) : bt a (i : Int) = (c.toNat : Int) ↔ a.data.toList[i] = c := by
 have hs : i < a.size := h
 have h2 : bt a (i : Int) = ((a.data.toList[i]).toNat : Int) := by
  unfold bt
  rw [dif_pos (by rw [Int.toNat_natCast]; exact hs)]
  rfl
 rw [h2]
 constructor
 ·intro e
  exact UInt8.toNat_inj.1 (by omega)
 ·intro e
  rw [e]
theorem l1Split_l0 (a : ByteArray) (c : UInt8) (hs : a.size ≤ 1099511627776) : ∀ (d i f : Nat) (acc : List ByteArray), i + d = a.size → f ≤ i → acc.length ≤ f → Ev (fun k => spec_l1Split.l0 k a (c.toNat : Int) acc (f : Int) (i : Int)) (acc ++ (glue ((a.data.toList.take i).drop f) (sp c (a.data.toList.drop i))).map mk)
 | 0, i, f, acc, hi, hf, ha => by
  have hi2 : i = a.size := by omega
  have hl : a.data.toList.length = a.size := rfl
  have hd : a.data.toList.drop i = [] := List.drop_of_length_le (by omega)
  have hg : glue ((a.data.toList.take i).drop f) (sp c []) = [(a.data.toList.take i).drop f] := by rw [show sp c [] = [[]] from rfl, glue, List.append_nil]
  rw [hd, hg, List.map_cons, List.map_nil, ← ext_mk, hi2]
  refine ev_step (f := fun _ => some (acc ++ [a.extract f a.size])) (Ev.now _) (fun k => by
   simp only [spec_l1Split.l0]
   rw [if_neg (by omega), if_pos (by omega), if_pos (by omega), if_pos (by omega), Int.toNat_natCast])
 | d + 1, i, f, acc, hi, hf, ha => by
  have hl : a.data.toList.length = a.size := rfl
  have hil : i < a.data.toList.length := by omega
  have hw : wrap64 ((i : Int) + 1) = ((i + 1 : Nat) : Int) := by rw [wrap64_id (by omega) (by omega)]; rfl
  rw [List.drop_eq_getElem_cons hil, sp]
  by_cases hb : a.data.toList[i] = c
  ·rw [if_pos hb, glue, List.append_nil, List.map_cons, ← ext_mk]
   have ih := l1Split_l0 a c hs d (i + 1) (i + 1) (acc ++ [a.extract f i]) (by omega) (Nat.le_refl _) (by rw [List.length_append, List.length_singleton]; omega)
   rw [List.drop_eq_nil_of_le (by rw [List.length_take]; omega), glue_nil (sp_ne _ _), List.append_assoc, List.singleton_append] at ih
   exact ev_step ih (fun k => by
    simp only [spec_l1Split.l0]
    rw [if_pos (by omega), if_pos (by omega), if_pos ((bt_eq hil c).2 hb), if_pos (by omega), if_pos (by omega), if_pos (by omega), if_pos (by omega), Int.toNat_natCast, Int.toNat_natCast, hw])
  ·rw [if_neg hb, glue_glue]
   have ih := l1Split_l0 a c hs d (i + 1) f acc (by omega) (by omega) ha
   rw [List.take_succ_eq_append_getElem hil, List.drop_append_of_le_length (by rw [List.length_take]; omega)] at ih
   exact ev_step ih (fun k => by
    simp only [spec_l1Split.l0]
    rw [if_pos (by omega), if_pos (by omega), if_neg (fun e => hb ((bt_eq hil c).1 e)), hw])
theorem l1Split_ev (a : ByteArray) (c : UInt8) (hs : a.size ≤ 1099511627776) : Ev (fun k => spec_l1Split.f k a (c.toNat : Int)) ((sp c a.data.toList).map mk) := by
 have h := l1Split_l0 a c hs a.size 0 0 [] (by omega) (Nat.le_refl _) (Nat.le_refl _)
 rw [List.take_zero, List.drop_zero, List.drop_zero, glue_nil (sp_ne _ _), List.nil_append] at h
 exact h
theorem l1Read_l0 (a : ByteArray) (hs : a.size ≤ 1099511627776) : ∀ (d i : Nat) (x : Int), i + d = a.size → ∃ r, Ev (fun k => spec_l1Read.l0 k a x (i : Int)) r
 | 0, i, x, hi => ⟨x, ev_step (f := fun _ => some x) (Ev.now _) (fun k => by simp only [spec_l1Read.l0]; rw [if_neg (by omega)])⟩
 | d + 1, i, x, hi => by
  have hw : wrap64 ((i : Int) + 1) = ((i + 1 : Nat) : Int) := by rw [wrap64_id (by omega) (by omega)]; rfl
  by_cases h1 : bt a (i : Int) < 48
  ·exact ⟨-1, ev_step (f := fun _ => some (-1)) (Ev.now _) (fun k => by simp only [spec_l1Read.l0]; rw [if_pos (by omega), if_pos (by omega), if_pos h1])⟩
  ·by_cases h2 : bt a (i : Int) > 57
   ·exact ⟨-1, ev_step (f := fun _ => some (-1)) (Ev.now _) (fun k => by simp only [spec_l1Read.l0]; rw [if_pos (by omega), if_pos (by omega), if_neg h1, if_pos h2])⟩
   ·obtain ⟨r, hr⟩ := l1Read_l0 a hs d (i + 1) (wrap64 ((wrap64 (10 * x)) + (((bt a (i : Int)) - 48) % 256))) (by omega)
    exact ⟨r, ev_step hr (fun k => by simp only [spec_l1Read.l0]; rw [if_pos (by omega), if_pos (by omega), if_neg h1, if_neg h2, hw])⟩
theorem l1Read_ev (a : ByteArray) (hs : a.size ≤ 1099511627776) : ∃ r, Ev (fun k => spec_l1Read.f k a) r := by
 have hj : ∀ b, ∃ r, Ev (fun k => spec_l1Read.j0 k a b) r := by
  intro b
  cases b with
  | true => exact ⟨-1, ev_step (f := fun _ => some (-1)) (Ev.now _) (fun k => by simp only [spec_l1Read.j0]; rw [if_pos trivial])⟩
  | false =>
   obtain ⟨r, hr⟩ := l1Read_l0 a hs a.size 0 0 (by omega)
   exact ⟨r, ev_step hr (fun k => by simp only [spec_l1Read.j0]; rw [if_neg (by decide)]; rfl)⟩
 unfold spec_l1Read.f
 by_cases h : 1 ≤ (a.size : Int) ∧ (a.size : Int) ≤ 6
 ·by_cases h0 : bt a 0 = 48
  ·obtain ⟨r, hr⟩ := hj (decide ((a.size : Int) > 1))
   exact ⟨r, ev_as hr (fun k => by rw [l1In_is, decide_eq_true h, Option.bind_some, if_pos rfl, if_pos (by omega), if_pos h0])⟩
  ·obtain ⟨r, hr⟩ := hj false
   exact ⟨r, ev_as hr (fun k => by rw [l1In_is, decide_eq_true h, Option.bind_some, if_pos rfl, if_pos (by omega), if_neg h0])⟩
 ·obtain ⟨r, hr⟩ := hj true
  exact ⟨r, ev_as hr (fun k => by rw [l1In_is, decide_eq_false h, Option.bind_some, if_neg (by decide)])⟩
end Go.Proofs.YtkadihmhaoghfaaDoor.B

namespace Go.Proofs.YtkadihmhaoghfaaDoor.B
open Go.RowKit Go.Proofs.YtkadihmhaoghfaaDoor.M Go.Proofs.YtkadihmhaoghfaaDoorW.PrintWords Go.Proofs.YtkadihmhaoghfaaDoorW.PrintLast Go.Proofs.YtkadihmhaoghfaaDoorW.PrintMore
attribute [local irreducible] Go.bits shl shr sd
def textOf (w : List Int) : ByteArray := text (grid (covF (w.map Int.toNat)) (w.map Int.toNat).length 0) w.length
theorem good_nat {w : List Int} {P : List Nat} (h : Good w P) : w.map Int.toNat = P := by
 rw [h.eq]
 unfold cast
 rw [List.map_map]
 exact List.map_id' _
theorem textOf_spec {w : List Int} {P : List Nat} (h : Good w P) : Ev (fun k => spec_poText.f k w) (textOf w) := by
 unfold textOf
 rw [good_nat h]
 exact poText_ev h
theorem textOf_impl {w : List Int} {P : List Nat} (h : Good w P) : Ev (fun k => impl_Poset_text.f k w) (textOf w) := by
 unfold textOf
 rw [good_nat h]
 exact text_ev h
def outc (s : ByteArray) (w : List Int) (z : Bool) : List Int × Bool := if z = true ∧ (textOf w).toList = s.toList then (w, true) else ([], false)
theorem spec_j2_ev {s : ByteArray} {t : List ByteArray} {R : List (List Int)} {m : Int} (h0 : 0 < (t.length : Int)) (hm : Ev (fun k => spec_l1Read.f k (rdOf ByteArray.empty t 0)) m) {w : List Int} {z : Bool} (hz : z = true → ∃ P, Good w P) (hF : Ev (fun k => spec_FromCovers.f k m R) (w, z)) : Ev (fun k => spec_poParse.j2 k s t R) (outc s w z) := by
 refine ev_stepb hm ?_ (fun k => by simp only [spec_poParse.j2]; rw [if_pos h0])
 refine Ev.bind hF ?_
 unfold outc
 cases z with
 | false => exact ev_as (Ev.now _) (fun k => by rw [if_neg (show ¬ (false = true) by decide), if_neg (by simp)])
 | true =>
  obtain ⟨P, hP⟩ := hz rfl
  refine ev_bind (textOf_spec hP) ?_ (fun k => by rw [if_pos rfl])
  by_cases h : (textOf w).toList = s.toList
  ·exact ev_as (Ev.now _) (fun k => by rw [if_pos h, if_pos ⟨rfl, h⟩])
  ·exact ev_as (Ev.now _) (fun k => by rw [if_neg h, if_neg (fun hh => h hh.2)])
theorem impl_j2_ev {s : ByteArray} {R : List (List Int)} {m : Int} {w : List Int} {z : Bool} (hz : z = true → ∃ P, Good w P) (hF : Ev (fun k => impl_FromCovers.f k m R) (w, z)) : Ev (fun k => impl_ParsePoset.j2 k s m R) (outc s w z) := by
 refine ev_stepb hF ?_ (fun k => by simp only [impl_ParsePoset.j2]; rfl)
 unfold outc
 cases z with
 | false => exact ev_as (Ev.now _) (fun k => by rw [if_neg (show ¬ (false = true) by decide), if_neg (by simp)])
 | true =>
  obtain ⟨P, hP⟩ := hz rfl
  refine ev_bind (textOf_impl hP) ?_ (fun k => by rw [if_pos rfl])
  by_cases h : (textOf w).toList = s.toList
  ·exact ev_as (Ev.now _) (fun k => by rw [if_pos h, if_pos ⟨rfl, h⟩])
  ·exact ev_as (Ev.now _) (fun k => by rw [if_neg h, if_neg (fun hh => h hh.2)])
def Snd (s : ByteArray) (r : List Int × Bool) : Prop := r = ([], false) ∨ ∃ w P, Good w P ∧ r = (w, true) ∧ (textOf w).toList = s.toList
theorem outc_snd (s : ByteArray) {w : List Int} {z : Bool} (hz : z = true → ∃ P, Good w P) : Snd s (outc s w z) := by
 unfold outc
 by_cases h : z = true ∧ (textOf w).toList = s.toList
 ·rw [if_pos h]
  obtain ⟨P, hP⟩ := hz h.1
  exact .inr ⟨w, P, hP, rfl, h.2⟩
 ·rw [if_neg h]
  exact .inl rfl
theorem rdOf_at {xs : List ByteArray} {i : Nat} (h : i < xs.length) : rdOf ByteArray.empty xs (i : Int) = xs[i] := by
 unfold rdOf
 rw [Int.toNat_natCast, List.getD_eq_getElem?_getD, List.getElem?_eq_getElem h, Option.getD_some]
theorem two_of {α : Type} {l : List α} (h : (l.length : Int) = 2) : ∃ a b, l = [a, b] := by
 match l, h with
 | [a, b], _ => exact ⟨a, b, rfl⟩
theorem sp_sizes {c : UInt8} : ∀ {s : List UInt8} {x : List UInt8}, x ∈ sp c s → x.length ≤ s.length
 | [], x, h => by
  rw [show sp c [] = [[]] from rfl, List.mem_singleton] at h
  rw [h]
  exact Nat.le_refl _
 | b :: r, x, h => by
  unfold sp at h
  split at h
  ·rcases List.mem_cons.1 h with rfl | h
   ·simp
   ·have := sp_sizes h
    rw [List.length_cons]
    omega
  ·cases hs : sp c r with
   | nil => exact absurd hs (sp_ne c r)
   | cons y ys =>
    rw [hs, glue] at h
    rcases List.mem_cons.1 h with rfl | h
    ·have := sp_sizes (c := c) (s := r) (x := y) (by rw [hs]; exact List.mem_cons_self)
     rw [List.length_append, List.length_cons, List.length_cons]
     simp
     omega
    ·have := sp_sizes (c := c) (s := r) (x := x) (by rw [hs]; exact List.mem_cons_of_mem _ h)
     rw [List.length_cons]
     omega
theorem sp_length {c : UInt8} : ∀ (s : List UInt8), (sp c s).length ≤ s.length + 1
 | [] => Nat.le_refl _
 | b :: r => by
  have ih := sp_length (c := c) r
  unfold sp
  split
  ·rw [List.length_cons, List.length_cons]; omega
  ·cases hs : sp c r with
   | nil => exact absurd hs (sp_ne c r)
   | cons y ys =>
    rw [hs] at ih
    rw [glue, List.length_cons, List.length_cons]
    rw [List.length_cons] at ih
    omega
theorem mk_size (l : List UInt8) : (mk l).size = l.length := rfl
theorem spec_l0_tot {s : ByteArray} {t : List ByteArray} (ht : 0 < (t.length : Int)) (hts : (rdOf ByteArray.empty t 0).size ≤ 1099511627776) {X : List ByteArray} (hX : ∀ x ∈ X, x.size ≤ 1099511627776) (hXl : X.length ≤ 1099511627777) : ∀ (d i : Nat) (acc : List (List Int)), i + d = X.length → acc.length ≤ i → ∃ r, Snd s r ∧ Ev (fun k => spec_poParse.l0 k s t acc X (X.length : Int) (i : Int)) r
 | 0, i, acc, hi, ha => by
  obtain ⟨m, hm⟩ := l1Read_ev _ hts
  obtain ⟨w, z, hz, h1, _⟩ := both_FC m acc
  exact ⟨outc s w z, outc_snd s hz, ev_step (spec_j2_ev ht hm hz h1) (fun k => by simp only [spec_poParse.l0]; rw [if_neg (by omega)])⟩
 | d + 1, i, acc, hi, ha => by
  have hil : i < X.length := by omega
  have hw : wrap64 ((i : Int) + 1) = ((i + 1 : Nat) : Int) := by rw [wrap64_id (by omega) (by omega)]; rfl
  have hx := hX _ (List.getElem_mem hil)
  have hsp := l1Split_ev X[i] 60 hx
  have hfalse : ∀ Y, Ev (fun k => spec_poParse.j1 k s t acc Y X (X.length : Int) (i : Int) true) ([], false) := fun Y => ev_step (f := fun _ => some ([], false)) (Ev.now _) (fun k => by simp only [spec_poParse.j1]; rw [if_pos trivial])
  by_cases h2 : (((sp 60 X[i].data.toList).map mk).length : Int) = 2
  ·by_cases h100 : ((acc.length : Int) == 100) = true
   ·refine ⟨([], false), .inl rfl, ev_stepb hsp ?_ (fun k => by simp only [spec_poParse.l0]; rw [if_pos (by omega), if_pos (by omega), if_pos (by omega), rdOf_at hil]; rfl)⟩
    exact ev_as (hfalse _) (fun k => by rw [if_pos h2, h100])
   ·obtain ⟨A, B, hAB⟩ := two_of h2
    have hA : A.size ≤ 1099511627776 := by
     have hm : A ∈ (sp 60 X[i].data.toList).map mk := by rw [hAB]; exact List.mem_cons_self
     obtain ⟨y, hy, rfl⟩ := List.mem_map.1 hm
     have := sp_sizes hy
     rw [mk_size]
     have : X[i].data.toList.length = X[i].size := rfl
     omega
    have hB : B.size ≤ 1099511627776 := by
     have hm : B ∈ (sp 60 X[i].data.toList).map mk := by rw [hAB]; exact List.mem_cons_of_mem _ List.mem_cons_self
     obtain ⟨y, hy, rfl⟩ := List.mem_map.1 hm
     have := sp_sizes hy
     rw [mk_size]
     have : X[i].data.toList.length = X[i].size := rfl
     omega
    obtain ⟨a, hra⟩ := l1Read_ev A hA
    obtain ⟨b, hrb⟩ := l1Read_ev B hB
    obtain ⟨r, hr, hev⟩ := spec_l0_tot ht hts hX hXl d (i + 1) (acc ++ [[a, b]]) (by omega) (by rw [List.length_append, List.length_singleton]; omega)
    refine ⟨r, hr, ev_stepb hsp ?_ (fun k => by simp only [spec_poParse.l0]; rw [if_pos (by omega), if_pos (by omega), if_pos (by omega), rdOf_at hil]; rfl)⟩
    have hj : Ev (fun k => spec_poParse.j1 k s t acc [A, B] X (X.length : Int) (i : Int) false) r := by
     refine ev_stepb hra ?_ (fun k => by simp only [spec_poParse.j1]; rw [if_neg (by decide), if_pos (by simp)]; rfl)
     refine ev_bind hrb ?_ (fun k => by rw [if_pos (by simp)]; rfl)
     exact ev_as hev (fun k => by rw [if_pos (by omega), hw])
    exact ev_as hj (fun k => by rw [if_pos h2, Bool.eq_false_iff.2 h100, hAB])
  ·refine ⟨([], false), .inl rfl, ev_stepb hsp ?_ (fun k => by simp only [spec_poParse.l0]; rw [if_pos (by omega), if_pos (by omega), if_pos (by omega), rdOf_at hil]; rfl)⟩
   exact ev_as (hfalse _) (fun k => by rw [if_neg h2])
theorem spec_tot {s : ByteArray} (hs : s.size ≤ 1099511627776) : ∃ r, Snd s r ∧ Ev (fun k => spec_poParse.f k s) r := by
 have h1 := l1Split_ev s 58 hs
 unfold spec_poParse.f
 by_cases h2 : (((sp 58 s.data.toList).map mk).length : Int) = 2
 ·obtain ⟨A, B, hAB⟩ := two_of h2
  have hsz : ∀ y ∈ (sp 58 s.data.toList).map mk, y.size ≤ 1099511627776 := by
   intro y hy
   obtain ⟨z, hz, rfl⟩ := List.mem_map.1 hy
   have := sp_sizes hz
   rw [mk_size]
   have : s.data.toList.length = s.size := rfl
   omega
  rw [hAB] at h1 hsz
  have hA : (rdOf ByteArray.empty [A, B] 0).size ≤ 1099511627776 := hsz A List.mem_cons_self
  have hB : B.size ≤ 1099511627776 := hsz B (List.mem_cons_of_mem _ List.mem_cons_self)
  by_cases hd : (rdOf ByteArray.empty [A, B] 1).toList = ([45] : List UInt8)
  ·obtain ⟨m, hm⟩ := l1Read_ev _ hA
   obtain ⟨w, z, hz, g1, _⟩ := both_FC m []
   refine ⟨outc s w z, outc_snd s hz, Ev.bind h1 ?_⟩
   exact ev_as (spec_j2_ev (by simp) hm hz g1) (fun k => by rw [if_pos (by simp), if_pos (by simp), if_pos hd])
  ·have hsp := l1Split_ev B 44 hB
   have hBl : B.data.toList.length = B.size := rfl
   obtain ⟨r, hr, hev⟩ := spec_l0_tot (s := s) (t := [A, B]) (by simp) hA (X := (sp 44 B.data.toList).map mk) (fun x hx => by
    obtain ⟨z, hz, rfl⟩ := List.mem_map.1 hx
    have := sp_sizes hz
    rw [mk_size]
    omega) (by rw [List.length_map]; have := sp_length (c := 44) B.data.toList; omega) _ 0 [] (Nat.zero_add _) (Nat.le_refl _)
   refine ⟨r, hr, Ev.bind h1 ?_⟩
   refine ev_bind hsp ?_ (fun k => by rw [if_pos (by simp), if_pos (by simp), if_neg hd]; rfl)
   exact hev
 ·exact ⟨([], false), .inl rfl, Ev.bind h1 (ev_as (Ev.now _) (fun k => by rw [if_neg h2]))⟩
end Go.Proofs.YtkadihmhaoghfaaDoor.B

namespace Go.Proofs.YtkadihmhaoghfaaDoor.B
open Go.RowKit Go.Proofs.YtkadihmhaoghfaaDoor.M Go.Proofs.YtkadihmhaoghfaaDoorW.PrintWords Go.Proofs.YtkadihmhaoghfaaDoorW.PrintLast Go.Proofs.YtkadihmhaoghfaaDoorW.PrintMore
attribute [local irreducible] Go.bits shl shr sd
theorem split_is {t : ByteArray} (h : t.size < 4294967281) : strings_Split.f t ⟨#[44]⟩ = some ((sp 44 t.data.toList).map mk) := by
 unfold strings_Split.f
 rw [if_pos h, if_pos (by decide), ← splitB_sp, List.map_map]
 congr 1
 exact (List.map_id' _).symm
theorem cut_is {s : ByteArray} (h : s.size < 4294967281) (c : UInt8) : strings_Cut.f s ⟨#[c]⟩ = some (mk (Lib.cut s.data.toList [c]).1, mk (Lib.cut s.data.toList [c]).2.1, (Lib.cut s.data.toList [c]).2.2) := by
 unfold strings_Cut.f
 rw [if_pos h]
 rfl
theorem cut_sizes (s : List UInt8) (c : List UInt8) : (Lib.cut s c).1.length ≤ s.length ∧ (Lib.cut s c).2.1.length ≤ s.length := by
 unfold Lib.cut
 split
 ·constructor
  ·simp only [List.length_take]; omega
  ·simp only [List.length_drop]; omega
 ·exact ⟨Nat.le_refl _, Nat.zero_le _⟩
theorem atoi_tot {s : ByteArray} (h : s.size ≤ 281474976710656) : ∃ n e, strconv_Atoi_23.f s = some (n, e) := by
 unfold strconv_Atoi_23.f
 rw [if_pos h]
 exact ⟨_, _, rfl⟩
theorem impl_l0_tot {s tl : ByteArray} {m : Int} {X : List ByteArray} (hX : ∀ x ∈ X, x.size ≤ 1048576) (hXl : X.length ≤ 1048577) : ∀ (d i : Nat) (acc : List (List Int)), i + d = X.length → acc.length ≤ i → ∃ r, Snd s r ∧ Ev (fun k => impl_ParsePoset.l0 k s tl m acc X (X.length : Int) (i : Int)) r
 | 0, i, acc, hi, ha => by
  obtain ⟨w, z, hz, _, h2⟩ := both_FC m acc
  exact ⟨outc s w z, outc_snd s hz, ev_step (impl_j2_ev hz h2) (fun k => by simp only [impl_ParsePoset.l0]; rw [if_neg (by omega)])⟩
 | d + 1, i, acc, hi, ha => by
  have hil : i < X.length := by omega
  have hw : wrap64 ((i : Int) + 1) = ((i + 1 : Nat) : Int) := by rw [wrap64_id (by omega) (by omega)]; rfl
  have hx := hX _ (List.getElem_mem hil)
  by_cases hd : tl.toList = ([45] : List UInt8)
  ·obtain ⟨w, z, hz, _, h2⟩ := both_FC m acc
   exact ⟨outc s w z, outc_snd s hz, ev_step (impl_j2_ev hz h2) (fun k => by simp only [impl_ParsePoset.l0]; rw [if_pos (by omega), if_pos (by omega), if_pos (by omega), if_pos hd])⟩
  ·have hc := cut_is (s := X[i]) (by omega) 60
   have hcs := cut_sizes X[i].data.toList [60]
   have hxl : X[i].data.toList.length = X[i].size := rfl
   obtain ⟨a, ea, hA⟩ := atoi_tot (s := mk (Lib.cut X[i].data.toList [60]).1) (by rw [mk_size]; omega)
   obtain ⟨b, eb, hB⟩ := atoi_tot (s := mk (Lib.cut X[i].data.toList [60]).2.1) (by rw [mk_size]; omega)
   obtain ⟨r, hr, hev⟩ := impl_l0_tot hX hXl d (i + 1) (acc ++ [[a, b]]) (by omega) (by rw [List.length_append, List.length_singleton]; omega)
   cases ea with
   | some q => exact ⟨([], false), .inl rfl, ev_step (f := fun _ => some ([], false)) (Ev.now _) (fun k => by
     simp only [impl_ParsePoset.l0]
     rw [if_pos (by omega), if_pos (by omega), if_pos (by omega), if_neg hd, rdOf_at hil, hc, Option.bind_some, hA, Option.bind_some, hB, Option.bind_some, if_neg (by simp)])⟩
   | none =>
    cases eb with
    | some q => exact ⟨([], false), .inl rfl, ev_step (f := fun _ => some ([], false)) (Ev.now _) (fun k => by
      simp only [impl_ParsePoset.l0]
      rw [if_pos (by omega), if_pos (by omega), if_pos (by omega), if_neg hd, rdOf_at hil, hc, Option.bind_some, hA, Option.bind_some, hB, Option.bind_some, if_pos (by simp), if_neg (by simp)])⟩
    | none => exact ⟨r, hr, ev_step hev (fun k => by
      simp only [impl_ParsePoset.l0]
      rw [if_pos (by omega), if_pos (by omega), if_pos (by omega), if_neg hd, rdOf_at hil, hc, Option.bind_some, hA, Option.bind_some, hB, Option.bind_some, if_pos (by simp), if_pos (by simp), if_pos (by omega), hw])⟩
theorem impl_tot (s : ByteArray) : ∃ r, Snd s r ∧ Ev (fun k => impl_ParsePoset.f k s) r := by
 unfold impl_ParsePoset.f
 by_cases h500 : (s.size : Int) > 500
 ·exact ⟨([], false), .inl rfl, ev_as (Ev.now _) (fun k => by rw [if_pos h500])⟩
 ·have hc := cut_is (s := s) (by omega) 58
  have hcs := cut_sizes s.data.toList [58]
  have hsl : s.data.toList.length = s.size := rfl
  obtain ⟨n, e, hA⟩ := atoi_tot (s := mk (Lib.cut s.data.toList [58]).1) (by rw [mk_size]; omega)
  have hT : Ev (fun k => impl_ParsePoset.j0 k s (mk (Lib.cut s.data.toList [58]).2.1) n true) ([], false) := ev_step (f := fun _ => some ([], false)) (Ev.now _) (fun k => by simp only [impl_ParsePoset.j0]; rw [if_pos trivial])
  cases hb : (Lib.cut s.data.toList [58]).2.2 with
  | false => exact ⟨([], false), .inl rfl, ev_as hT (fun k => by rw [if_neg h500, hc, Option.bind_some, hA, Option.bind_some, hb, if_neg (by simp)])⟩
  | true =>
   cases e with
   | some q => exact ⟨([], false), .inl rfl, ev_as hT (fun k => by rw [if_neg h500, hc, Option.bind_some, hA, Option.bind_some, hb, if_pos (by simp), if_neg (by simp)])⟩
   | none =>
    have hsp := split_is (t := mk (Lib.cut s.data.toList [58]).2.1) (by rw [mk_size]; omega)
    obtain ⟨r, hr, hev⟩ := impl_l0_tot (s := s) (tl := mk (Lib.cut s.data.toList [58]).2.1) (m := n) (X := (sp 44 (mk (Lib.cut s.data.toList [58]).2.1).data.toList).map mk) (fun x hx => by
     obtain ⟨z, hz, rfl⟩ := List.mem_map.1 hx
     have h1 := sp_sizes hz
     have h2 : (mk (Lib.cut s.data.toList [58]).2.1).data.toList.length = (Lib.cut s.data.toList [58]).2.1.length := rfl
     rw [mk_size]
     omega) (by
     rw [List.length_map]
     have h1 := sp_length (c := 44) (mk (Lib.cut s.data.toList [58]).2.1).data.toList
     have h2 : (mk (Lib.cut s.data.toList [58]).2.1).data.toList.length = (Lib.cut s.data.toList [58]).2.1.length := rfl
     omega) _ 0 [] (Nat.zero_add _) (Nat.le_refl _)
    have hF : Ev (fun k => impl_ParsePoset.j0 k s (mk (Lib.cut s.data.toList [58]).2.1) n false) r := ev_step hev (fun k => by simp only [impl_ParsePoset.j0]; rw [if_neg (by decide), hsp, Option.bind_some]; rfl)
    exact ⟨r, hr, ev_as hF (fun k => by rw [if_neg h500, hc, Option.bind_some, hA, Option.bind_some, hb, if_pos (by simp), if_pos (by simp)])⟩
end Go.Proofs.YtkadihmhaoghfaaDoor.B

namespace Go.Proofs.YtkadihmhaoghfaaDoor.B
open Go.RowKit Go.Proofs.YtkadihmhaoghfaaDoor.M Go.Proofs.YtkadihmhaoghfaaDoorW.PrintWords Go.Proofs.YtkadihmhaoghfaaDoorW.PrintLast Go.Proofs.YtkadihmhaoghfaaDoorW.PrintMore
attribute [local irreducible] Go.bits shl shr sd
def Pairs9 (R : List (List Int)) : Prop := ∀ c ∈ R, ∃ j i : Nat, c = [(j : Int), (i : Int)] ∧ j ≤ 9 ∧ i ≤ 9
theorem read_all : ∀ n : Fin 11, spec_l1Read.f 20 (dig n.val) = some ((n.val : Nat) : Int) := by decide +kernel
theorem read_ev {n : Nat} (h : n ≤ 10) : Ev (fun k => spec_l1Read.f k (dig n)) (n : Int) := Ev.of (fun k => spec_l1Read.mono _ k) (read_all ⟨n, by omega⟩)
theorem atoi_all : ∀ n : Fin 11, strconv_Atoi_23.f (dig n.val) = some (((n.val : Nat) : Int), none) := by decide +kernel
theorem atoi_dig {n : Nat} (h : n ≤ 10) : strconv_Atoi_23.f (dig n) = some ((n : Int), none) := atoi_all ⟨n, by omega⟩
theorem no_all : ∀ n : Fin 11, (58 : UInt8) ∉ (dig n.val).data.toList ∧ (44 : UInt8) ∉ (dig n.val).data.toList ∧ (60 : UInt8) ∉ (dig n.val).data.toList := by decide +kernel
theorem no_dig {n : Nat} (h : n ≤ 10) : (58 : UInt8) ∉ (dig n).data.toList ∧ (44 : UInt8) ∉ (dig n).data.toList ∧ (60 : UInt8) ∉ (dig n).data.toList := no_all ⟨n, by omega⟩
theorem dig1 : ∀ n : Fin 10, (dig n.val).size = 1 := by decide +kernel
theorem part_list (a b : Nat) : (part [(a : Int), (b : Int)]).data.toList = (dig a).data.toList ++ 60 :: (dig b).data.toList := by
 show ((dig a ++ (⟨#[60]⟩ : ByteArray)) ++ dig b).data.toList = _
 rw [ByteArray.data_append, ByteArray.data_append, Array.toList_append, Array.toList_append]
 simp
theorem part_no {a b : Nat} (ha : a ≤ 9) (hb : b ≤ 9) : (58 : UInt8) ∉ (part [(a : Int), (b : Int)]).data.toList ∧ (44 : UInt8) ∉ (part [(a : Int), (b : Int)]).data.toList := by
 have h1 := no_dig (n := a) (by omega)
 have h2 := no_dig (n := b) (by omega)
 rw [part_list]
 simp only [List.mem_append, List.mem_cons, not_or]
 exact ⟨⟨h1.1, by decide, h2.1⟩, ⟨h1.2.1, by decide, h2.2.1⟩⟩
def bodyL (R : List (List Int)) : List UInt8 := if R = [] then [45] else Lib.join ((R.map part).map (·.data.toList)) [44]
theorem text_list (R : List (List Int)) (n : Nat) : (text R n).data.toList = (dig n).data.toList ++ 58 :: bodyL R := by
 unfold text bodyL
 rw [ByteArray.data_append, ByteArray.data_append, Array.toList_append, Array.toList_append]
 split
 ·simp
 ·simp [sj]
theorem join_no {c : UInt8} (hc : c ≠ 44) : ∀ {xs : List (List UInt8)}, (∀ x ∈ xs, c ∉ x) → c ∉ Lib.join xs [44]
 | [], _ => by simp [Lib.join]
 | [x], h => by rw [Lib.join_one]; exact h x List.mem_cons_self
 | x :: y :: t, h => by
  have e : Lib.join (x :: y :: t) [44] = x ++ 44 :: Lib.join (y :: t) [44] := by
   rw [Lib.join_cons, Lib.join_cons]
   simp [Lib.joinTail]
  rw [e]
  simp only [List.mem_append, List.mem_cons, not_or]
  exact ⟨h x List.mem_cons_self, hc, join_no hc (fun z hz => h z (List.mem_cons_of_mem _ hz))⟩
theorem body_no {R : List (List Int)} (hR : Pairs9 R) : (58 : UInt8) ∉ bodyL R := by
 unfold bodyL
 split
 ·decide
 ·refine join_no (by decide) (fun x hx => ?_)
  obtain ⟨y, hy, rfl⟩ := List.mem_map.1 hx
  obtain ⟨c, hc, rfl⟩ := List.mem_map.1 hy
  obtain ⟨j, i, rfl, h1, h2⟩ := hR c hc
  exact (part_no h1 h2).1
theorem body_sp {R : List (List Int)} (hR : Pairs9 R) (h0 : R ≠ []) : (sp 44 (bodyL R)).map mk = R.map part := by
 unfold bodyL
 rw [if_neg h0, sp_join (by simpa using h0) (fun x hx => by
  obtain ⟨y, hy, rfl⟩ := List.mem_map.1 hx
  obtain ⟨c, hc, rfl⟩ := List.mem_map.1 hy
  obtain ⟨j, i, rfl, h1, h2⟩ := hR c hc
  exact (part_no h1 h2).2), List.map_map]
 exact List.map_id' _
theorem pairs9 {R : List (List Int)} (hR : Pairs9 R) : Pairs R := fun c hc => by
 obtain ⟨j, i, h, h1, h2⟩ := hR c hc
 exact ⟨j, i, h, by omega, by omega⟩
theorem pair9_at {R : List (List Int)} (hR : Pairs9 R) {i : Nat} (hi : i < R.length) : ∃ a b : Nat, a ≤ 9 ∧ b ≤ 9 ∧ R[i] = [(a : Int), (b : Int)] := by
 obtain ⟨a, b, h, h1, h2⟩ := hR _ (List.getElem_mem hi)
 exact ⟨a, b, h1, h2, h⟩
theorem body_dash {R : List (List Int)} (hR : Pairs9 R) (h0 : R ≠ []) : (mk (bodyL R)).toList ≠ ([45] : List UInt8) := by
 rw [Lib.toList_data]
 intro he
 have he2 : bodyL R = [45] := he
 have h1 := body_sp hR h0
 rw [he2] at h1
 have h2 : sp 44 ([45] : List UInt8) = [[45]] := by decide
 rw [h2] at h1
 cases R with
 | nil => exact h0 rfl
 | cons c t =>
  obtain ⟨a, b, rfl, ha, hb⟩ := hR c List.mem_cons_self
  rw [List.map_cons, List.map_nil, List.map_cons] at h1
  injection h1 with h3 _
  have h4 : (60 : UInt8) ∈ (part [(a : Int), (b : Int)]).data.toList := by rw [part_list]; simp
  rw [← h3] at h4
  have h5 : (60 : UInt8) ∈ ([45] : List UInt8) := h4
  simp at h5
theorem sp_part {a b : Nat} (ha : a ≤ 9) (hb : b ≤ 9) : (sp 60 (part [(a : Int), (b : Int)]).data.toList).map mk = [dig a, dig b] := by
 have h1 := no_dig (n := a) (by omega)
 have h2 := no_dig (n := b) (by omega)
 rw [part_list, sp_hit _ h1.2.2, sp_no h2.2.2]
 rfl
theorem spec_l0_can {R : List (List Int)} (hR : Pairs9 R) (hm : R.length ≤ 100) {s : ByteArray} {t : List ByteArray} {r : List Int × Bool} (h : Ev (fun k => spec_poParse.j2 k s t R) r) : ∀ (d i : Nat), i + d = R.length → Ev (fun k => spec_poParse.l0 k s t (R.take i) (R.map part) (R.length : Int) (i : Int)) r
 | 0, i, hi => by
  rw [List.take_of_length_le (by omega)]
  exact ev_step h (fun k => by simp only [spec_poParse.l0]; rw [if_neg (by omega)])
 | d + 1, i, hi => by
  have hil : i < R.length := by omega
  have hil2 : i < (R.map part).length := by rw [List.length_map]; exact hil
  have hw : wrap64 ((i : Int) + 1) = ((i + 1 : Nat) : Int) := by rw [wrap64_id (by omega) (by omega)]; rfl
  obtain ⟨a, b, ha, hb, hg⟩ := pair9_at hR hil
  have hp : (R.map part)[i] = part [(a : Int), (b : Int)] := by rw [List.getElem_map, hg]
  have hps := part_size [(a : Int), (b : Int)]
  have hsp := l1Split_ev (part [(a : Int), (b : Int)]) 60 (by omega)
  rw [sp_part ha hb] at hsp
  have hlen : (R.take i).length = i := by rw [List.length_take]; omega
  have ih := spec_l0_can hR hm h d (i + 1) (by omega)
  rw [List.take_succ_eq_append_getElem hil, hg] at ih
  have hj : Ev (fun k => spec_poParse.j1 k s t (R.take i) [dig a, dig b] (R.map part) (R.length : Int) (i : Int) false) r := by
   refine ev_stepb (read_ev (n := a) (by omega)) ?_ (fun k => by simp only [spec_poParse.j1]; rw [if_neg (by decide), if_pos (by simp)]; rfl)
   refine ev_bind (read_ev (n := b) (by omega)) ?_ (fun k => by rw [if_pos (by simp)]; rfl)
   exact ev_as ih (fun k => by rw [if_pos (by omega), hw])
  refine ev_stepb hsp ?_ (fun k => by simp only [spec_poParse.l0]; rw [if_pos (by omega), if_pos (by omega), if_pos (by omega), rdOf_at hil2, hp]; rfl)
  exact ev_as hj (fun k => by rw [if_pos (by simp), show (((R.take i).length : Int) == 100) = false by rw [hlen]; simp; omega])
theorem impl_l0_can {R : List (List Int)} (hR : Pairs9 R) (h0 : R ≠ []) (hm : R.length ≤ 100) {s : ByteArray} {m : Int} {r : List Int × Bool} (h : Ev (fun k => impl_ParsePoset.j2 k s m R) r) : ∀ (d i : Nat), i + d = R.length → Ev (fun k => impl_ParsePoset.l0 k s (mk (bodyL R)) m (R.take i) (R.map part) (R.length : Int) (i : Int)) r
 | 0, i, hi => by
  rw [List.take_of_length_le (by omega)]
  exact ev_step h (fun k => by simp only [impl_ParsePoset.l0]; rw [if_neg (by omega)])
 | d + 1, i, hi => by
  have hil : i < R.length := by omega
  have hil2 : i < (R.map part).length := by rw [List.length_map]; exact hil
  have hw : wrap64 ((i : Int) + 1) = ((i + 1 : Nat) : Int) := by rw [wrap64_id (by omega) (by omega)]; rfl
  obtain ⟨a, b, ha, hb, hg⟩ := pair9_at hR hil
  have hp : (R.map part)[i] = part [(a : Int), (b : Int)] := by rw [List.getElem_map, hg]
  have hps := part_size [(a : Int), (b : Int)]
  have hc := cut_is (s := part [(a : Int), (b : Int)]) (by omega) 60
  rw [part_list, cut_hit _ (no_dig (n := a) (by omega)).2.2] at hc
  have hA : strconv_Atoi_23.f (mk (dig a).data.toList) = some ((a : Int), none) := atoi_dig (by omega)
  have hB : strconv_Atoi_23.f (mk (dig b).data.toList) = some ((b : Int), none) := atoi_dig (by omega)
  have hlen : (R.take i).length = i := by rw [List.length_take]; omega
  have ih := impl_l0_can hR h0 hm h d (i + 1) (by omega)
  rw [List.take_succ_eq_append_getElem hil, hg] at ih
  exact ev_step ih (fun k => by
   simp only [impl_ParsePoset.l0]
   rw [if_pos (by omega), if_pos (by omega), if_pos (by omega), if_neg (body_dash hR h0), rdOf_at hil2, hp, hc, Option.bind_some, hA, Option.bind_some, hB, Option.bind_some, if_pos (by simp), if_pos (by simp), if_pos (by omega), hw])
end Go.Proofs.YtkadihmhaoghfaaDoor.B

namespace Go.Proofs.YtkadihmhaoghfaaDoor.B
open Go.RowKit Go.Proofs.YtkadihmhaoghfaaDoor.M Go.Proofs.YtkadihmhaoghfaaDoorW.PrintWords Go.Proofs.YtkadihmhaoghfaaDoorW.PrintLast Go.Proofs.YtkadihmhaoghfaaDoorW.PrintMore
attribute [local irreducible] Go.bits shl shr sd
theorem eqIntS_l0 (l : List Int) (hl : l.length ≤ 35184372088832) : ∀ (i : Nat) (_ : Unit), i ≤ l.length → True → Ev (fun k => laws_eqIntS.l0 k l l (i : Int)) true := by
 refine ev_down (fun k (_ : Unit) i => laws_eqIntS.l0 k l l i) (fun _ _ => true) l.length (fun _ _ => True) ?_ ?_
 ·intro _ _
  exact ev_step (Ev.now _) (fun k => by simp only [laws_eqIntS.l0]; rw [if_neg (by omega)])
 ·intro i _ hi _ ih
  have c1 : (i : Int) < (l.length : Int) := by omega
  have hw : wrap64 ((i : Int) + 1) = (i : Int) + 1 := wrap64_id (by omega) (by omega)
  exact ev_step (ih () trivial) (fun k => by simp only [laws_eqIntS.l0]; rw [if_pos c1, if_pos (by omega), if_pos c1, if_pos trivial, hw])
theorem eqIntS_ev (l : List Int) (hl : l.length ≤ 35184372088832) : Ev (fun k => laws_eqIntS.f k l l) true := by
 unfold laws_eqIntS.f
 exact ev_as (eqIntS_l0 l hl 0 () (by omega) trivial) (fun k => by rw [if_pos rfl]; rfl)
theorem eqPoset_ev (l : List Int) (hl : l.length ≤ 35184372088832) : Ev (fun k => laws_eqPoset.f k l l) true := by
 unfold laws_eqPoset.f
 exact Ev.bind (eqIntS_ev l hl) (Ev.now _)
end Go.Proofs.YtkadihmhaoghfaaDoor.B

namespace Go.Proofs.YtkadihmhaoghfaaDoor.B
open Go.RowKit Go.Proofs.YtkadihmhaoghfaaDoor.M Go.Proofs.YtkadihmhaoghfaaDoorW.PrintWords Go.Proofs.YtkadihmhaoghfaaDoorW.PrintLast Go.Proofs.YtkadihmhaoghfaaDoorW.PrintMore
attribute [local irreducible] Go.bits shl shr sd
def marked (l : List Int) (k : Int) : List Int := (List.range l.length).map (fun j : Nat => k + (j : Int))
theorem markIntS_l0 (l : List Int) (k0 : Int) (hl : l.length ≤ 35184372088832) (h0 : 0 ≤ k0) (h1 : k0 ≤ 35184372088832) : ∀ (i : Nat) (st : List Int), i ≤ l.length → (st.length = l.length ∧ ∀ j, j < i → st.getD j 0 = k0 + (j : Int)) →
  Ev (fun k => laws_markIntS.l0 k st (k0 + (i : Int)) (i : Int)) (k0 + (l.length : Int), marked l k0) := by
 have H := ev_down (fun k (st : List Int) i => laws_markIntS.l0 k st (k0 + i) i) (fun _ _ => (k0 + (l.length : Int), marked l k0)) l.length (fun i st => st.length = l.length ∧ ∀ j, j < i → st.getD j 0 = k0 + (j : Int)) ?_ ?_
 ·exact H
 ·rintro st ⟨h2, h3⟩
  have : st = marked l k0 := by
   unfold marked
   apply List.ext_getElem
   ·simpa using h2
   ·intro i hi hi'
    have := h3 i (by omega)
    rw [List.getD_eq_getElem?_getD, List.getElem?_eq_getElem hi] at this
    simpa using this
  rw [this]
  exact ev_step (Ev.now _) (fun k => by simp only [laws_markIntS.l0]; rw [if_neg (by unfold marked; simp)])
 ·rintro i st hi ⟨h2, h3⟩ ih
  have c1 : (i : Int) < (st.length : Int) := by omega
  have hw : wrap64 ((i : Int) + 1) = (i : Int) + 1 := wrap64_id (by omega) (by omega)
  have hw2 : wrap64 (k0 + (i : Int) + 1) = k0 + ((i : Int) + 1) := by rw [wrap64_id (by omega) (by omega)]; omega
  refine ev_step (ih (st.set i (k0 + (i : Int))) ⟨by rw [List.length_set]; exact h2, fun j hj => ?_⟩) (fun k => by simp only [laws_markIntS.l0]; rw [if_pos c1, if_pos (by omega), hw, hw2, Int.toNat_natCast])
  rw [List.getD_eq_getElem?_getD, List.getElem?_set]
  by_cases h : i = j
  ·subst h
   rw [if_pos rfl, if_pos (by omega), Option.getD_some]
  ·rw [if_neg h, ← List.getD_eq_getElem?_getD]
   exact h3 j (by omega)
theorem markIntS_ev (l : List Int) (k0 : Int) (hl : l.length ≤ 35184372088832) (h0 : 0 ≤ k0) (h1 : k0 ≤ 35184372088832) : Ev (fun k => laws_markIntS.f k l k0) (k0 + (l.length : Int), marked l k0) := by
 unfold laws_markIntS.f
 have := markIntS_l0 l k0 hl h0 h1 0 l (by omega) ⟨rfl, fun j h => absurd h (by omega)⟩
 simpa using this
theorem markPoset_ev (l : List Int) (k0 : Int) (hl : l.length ≤ 35184372088832) (h0 : 0 ≤ k0) (h1 : k0 ≤ 35184372088832) : Ev (fun k => laws_markPoset.f k l k0) (k0 + (l.length : Int), marked l k0) := by
 unfold laws_markPoset.f
 exact Ev.bind (markIntS_ev l k0 hl h0 h1) (Ev.now _)
theorem marked_length (l : List Int) (k : Int) : (marked l k).length = l.length := by unfold marked; simp
theorem marked_getD (l : List Int) (k : Int) {j : Nat} (h : j < l.length) : (marked l k).getD j 0 = k + (j : Int) := by
 unfold marked
 simp [List.getD_eq_getElem?_getD, h]
theorem heldIntS_ev (l : List Int) (k0 : Int) (hl : l.length ≤ 35184372088832) (h0 : 0 ≤ k0) (h1 : k0 ≤ 35184372088832) : Ev (fun k => laws_heldIntS.f k (marked l k0) k0) (k0 + (l.length : Int)) := by
 have H := ev_down (fun k (_ : Unit) i => laws_heldIntS.l0 k (marked l k0) (k0 + i) i) (fun _ _ => k0 + (l.length : Int)) l.length (fun _ _ => True) ?_ ?_ 0 () (by omega) trivial
 ·unfold laws_heldIntS.f
  simpa using H
 ·intro _ _
  exact ev_step (Ev.now _) (fun k => by simp only [laws_heldIntS.l0]; rw [if_neg (by rw [marked_length]; omega)])
 ·intro i _ hi _ ih
  have c1 : (i : Int) < ((marked l k0).length : Int) := by rw [marked_length]; omega
  have hw : wrap64 ((i : Int) + 1) = (i : Int) + 1 := wrap64_id (by omega) (by omega)
  have hw2 : wrap64 (k0 + (i : Int) + 1) = k0 + ((i : Int) + 1) := by rw [wrap64_id (by omega) (by omega)]; omega
  exact ev_step (ih () trivial) (fun k => by simp only [laws_heldIntS.l0]; rw [if_pos c1, if_pos (by omega), rd_nat, marked_getD l k0 hi, if_pos rfl, hw, hw2])
end Go.Proofs.YtkadihmhaoghfaaDoor.B

namespace Go.Proofs.YtkadihmhaoghfaaDoor.B
open Go.RowKit Go.Proofs.YtkadihmhaoghfaaDoor.M Go.Proofs.YtkadihmhaoghfaaDoorW.PrintWords Go.Proofs.YtkadihmhaoghfaaDoorW.PrintLast Go.Proofs.YtkadihmhaoghfaaDoorW.PrintMore
attribute [local irreducible] Go.bits shl shr sd
theorem heldPoset_ev (l : List Int) (k0 : Int) (hl : l.length ≤ 35184372088832) (h0 : 0 ≤ k0) (h1 : k0 ≤ 35184372088832) : Ev (fun k => laws_heldPoset.f k (marked l k0) k0) (k0 + (l.length : Int)) := by
 unfold laws_heldPoset.f
 exact Ev.bind (heldIntS_ev l k0 hl h0 h1) (ev_as (Ev.now _) (fun k => by rw [if_neg (by omega)]))
end Go.Proofs.YtkadihmhaoghfaaDoor.B

namespace Go.Proofs.YtkadihmhaoghfaaDoor.B
open Go.RowKit Go.Proofs.YtkadihmhaoghfaaDoor.M Go.Proofs.YtkadihmhaoghfaaDoorW.PrintWords Go.Proofs.YtkadihmhaoghfaaDoorW.PrintLast Go.Proofs.YtkadihmhaoghfaaDoorW.PrintMore
attribute [local irreducible] Go.bits shl shr sd
theorem sj_size4 {R : List (List Int)} (hR : Pairs9 R) : ∀ i, i ≤ R.length → (sj ((R.map part).take i)).size ≤ 4 * i
 | 0, _ => by rw [List.take_zero]; decide
 | i + 1, h => by
  have ih := sj_size4 hR i (by omega)
  have hi : i < R.length := by omega
  obtain ⟨a, b, ha, hb, hg⟩ := pair9_at hR hi
  have hp : (part R[i]).size = 3 := by
   rw [hg]
   show ((dig a ++ (⟨#[60]⟩ : ByteArray)) ++ dig b).size = 3
   rw [ByteArray.size_append, ByteArray.size_append, lit1, dig1 ⟨a, by omega⟩, dig1 ⟨b, by omega⟩]
  rw [take_next hi]
  by_cases h0 : i = 0
  ·subst h0
   rw [List.take_zero, List.nil_append, sj_one]
   omega
  ·rw [sj_snoc _ (by intro he; have := congrArg List.length he; rw [List.length_take, List.length_map, List.length_nil] at this; omega), ByteArray.size_append, ByteArray.size_append, lit1]
   omega
theorem text_size {R : List (List Int)} (hR : Pairs9 R) (hm : R.length ≤ 100) (n : Nat) : (text R n).size ≤ 500 := by
 have h1 := dig_size n
 have h2 := sj_size4 hR R.length (Nat.le_refl _)
 rw [List.take_of_length_le (by rw [List.length_map]; omega)] at h2
 unfold text
 rw [ByteArray.size_append, ByteArray.size_append, lit1]
 split
 ·rw [lit1]; omega
 ·omega
theorem spec_can {R : List (List Int)} (hR : Pairs9 R) (hm : R.length ≤ 100) {n : Nat} (hn : n ≤ 10) {w : List Int} {z : Bool} (hz : z = true → ∃ P, Good w P) (hF : Ev (fun k => spec_FromCovers.f k (n : Int) R) (w, z)) : Ev (fun k => spec_poParse.f k (text R n)) (outc (text R n) w z) := by
 have hs := text_size hR hm n
 have h1 := l1Split_ev (text R n) 58 (by omega)
 rw [text_list, sp_hit _ (no_dig hn).1, sp_no (body_no hR), List.map_cons, List.map_cons, List.map_nil] at h1
 have hj : Ev (fun k => spec_poParse.j2 k (text R n) [mk (dig n).data.toList, mk (bodyL R)] R) (outc (text R n) w z) := by
  have hrd : rdOf ByteArray.empty [mk (dig n).data.toList, mk (bodyL R)] 0 = dig n := rdOf_at (xs := [mk (dig n).data.toList, mk (bodyL R)]) (i := 0) (by simp)
  exact spec_j2_ev (by simp) (by rw [hrd]; exact read_ev hn) hz hF
 unfold spec_poParse.f
 refine Ev.bind h1 ?_
 by_cases h0 : R = []
 ·subst h0
  exact ev_as hj (fun k => by rw [if_pos (by simp), if_pos (by simp), if_pos (by rw [Lib.toList_data]; rfl)])
 ·have hd := body_dash hR h0
  have hbs : (mk (bodyL R)).size ≤ 1099511627776 := by
   have h3 : (text R n).data.toList.length = (text R n).size := rfl
   rw [text_list, List.length_append, List.length_cons] at h3
   rw [mk_size]
   omega
  have h2 := l1Split_ev (mk (bodyL R)) 44 hbs
  rw [show (mk (bodyL R)).data.toList = bodyL R from rfl, body_sp hR h0] at h2
  have h3 := spec_l0_can hR hm hj R.length 0 (Nat.zero_add _)
  refine ev_bind h2 ?_ (fun k => by rw [if_pos (by simp), if_pos (by simp), if_neg (by exact hd)]; rfl)
  rw [List.take_zero] at h3
  exact ev_as h3 (fun k => by rw [List.length_map]; rfl)
theorem impl_can {R : List (List Int)} (hR : Pairs9 R) (hm : R.length ≤ 100) {n : Nat} (hn : n ≤ 10) {w : List Int} {z : Bool} (hz : z = true → ∃ P, Good w P) (hF : Ev (fun k => impl_FromCovers.f k (n : Int) R) (w, z)) : Ev (fun k => impl_ParsePoset.f k (text R n)) (outc (text R n) w z) := by
 have hs := text_size hR hm n
 have hc : strings_Cut.f (text R n) ⟨#[58]⟩ = some (mk (dig n).data.toList, mk (bodyL R), true) := by
  have hc := cut_is (s := text R n) (by omega) 58
  rw [text_list, cut_hit _ (no_dig hn).1] at hc
  exact hc
 have hA : strconv_Atoi_23.f (mk (dig n).data.toList) = some ((n : Int), none) := atoi_dig hn
 have hj : Ev (fun k => impl_ParsePoset.j2 k (text R n) (n : Int) R) (outc (text R n) w z) := impl_j2_ev hz hF
 have hbs : (mk (bodyL R)).size ≤ 500 := by
  have h3 : (text R n).data.toList.length = (text R n).size := rfl
  rw [text_list, List.length_append, List.length_cons] at h3
  rw [mk_size]
  omega
 have hsp := split_is (t := mk (bodyL R)) (by omega)
 rw [show (mk (bodyL R)).data.toList = bodyL R from rfl] at hsp
 have hF0 : Ev (fun k => impl_ParsePoset.j0 k (text R n) (mk (bodyL R)) (n : Int) false) (outc (text R n) w z) := by
  by_cases h0 : R = []
  ·subst h0
   have hsp2 : strings_Split.f (mk (bodyL [])) ⟨#[44]⟩ = some [mk [45]] := hsp
   refine ev_step (f := fun k => impl_ParsePoset.l0 k (text [] n) (mk (bodyL [])) (n : Int) [] [mk [45]] (([mk [45]] : List ByteArray).length : Int) 0) ?_ (fun k => by simp only [impl_ParsePoset.j0]; rw [if_neg (by decide), hsp2, Option.bind_some])
   exact ev_step hj (fun k => by simp only [impl_ParsePoset.l0]; rw [if_pos (by simp), if_pos (by omega), if_pos (by simp), if_pos (by rw [Lib.toList_data]; rfl)])
  ·rw [body_sp hR h0] at hsp
   have h3 := impl_l0_can hR h0 hm hj R.length 0 (Nat.zero_add _)
   rw [List.take_zero] at h3
   exact ev_step h3 (fun k => by simp only [impl_ParsePoset.j0]; rw [if_neg (by decide), hsp, Option.bind_some, List.length_map]; rfl)
 unfold impl_ParsePoset.f
 exact ev_as hF0 (fun k => by rw [if_neg (by omega), hc, Option.bind_some, hA, Option.bind_some, if_pos (by rfl), if_pos (by rfl)])
theorem snd_can {s : ByteArray} {r : List Int × Bool} (h : Snd s r) (hno : ¬ ∃ R n, Pairs9 R ∧ R.length ≤ 100 ∧ n ≤ 10 ∧ s = text R n) : r = ([], false) := by
 rcases h with h | ⟨w, P, hP, rfl, ht⟩
 ·exact h
 ·exfalso
  apply hno
  have hn := hP.n10
  have hl := hP.length
  refine ⟨grid (covF P) P.length 0, w.length, fun c hc => ?_, grid_length _ hn, by omega, ?_⟩
  ·obtain ⟨j, i, he, h1, h2, _⟩ := mem_grid hc
   exact ⟨j, i, he, by omega, by omega⟩
  ·unfold textOf at ht
   rw [good_nat hP, Lib.toList_data, Lib.toList_data] at ht
   exact (bytes_ext ht).symm
theorem both_ParsePoset (s : ByteArray) (hs : s.size ≤ 1048576) : ∃ w z, w.length ≤ 10 ∧ Ev (fun k => spec_ParsePoset.f k s) (w, z) ∧ Ev (fun k => impl_ParsePoset.f k s) (w, z) := by
 have go : ∀ r : List Int × Bool, r.1.length ≤ 10 → Ev (fun k => spec_poParse.f k s) r → Ev (fun k => impl_ParsePoset.f k s) r → ∃ w z, w.length ≤ 10 ∧ Ev (fun k => spec_ParsePoset.f k s) (w, z) ∧ Ev (fun k => impl_ParsePoset.f k s) (w, z) := by
  intro r hr h1 h2
  obtain ⟨w, z⟩ := r
  refine ⟨w, z, hr, ?_, h2⟩
  unfold spec_ParsePoset.f
  exact Ev.bind h1 (Ev.now _)
 by_cases hcan : ∃ R n, Pairs9 R ∧ R.length ≤ 100 ∧ n ≤ 10 ∧ s = text R n
 ·obtain ⟨R, n, hR, hm, hn, rfl⟩ := hcan
  obtain ⟨w, z, hz, h1, h2⟩ := both_FC (n : Int) R
  refine go (outc (text R n) w z) ?_ (spec_can hR hm hn hz h1) (impl_can hR hm hn hz h2)
  unfold outc
  by_cases h : z = true ∧ (textOf w).toList = (text R n).toList
  ·rw [if_pos h]
   obtain ⟨P, hP⟩ := hz h.1
   have h1 := hP.n10
   have h2 := hP.length
   show w.length ≤ 10
   omega
  ·rw [if_neg h]
   exact Nat.zero_le _
 ·obtain ⟨r1, hr1, h1⟩ := spec_tot (s := s) (by omega)
  obtain ⟨r2, hr2, h2⟩ := impl_tot s
  rw [snd_can hr1 hcan] at h1
  rw [snd_can hr2 hcan] at h2
  exact go ([], false) (Nat.zero_le _) h1 h2
theorem tail_ParsePoset (s : ByteArray) (w : List Int) (z : Bool) (hw : w.length ≤ 1048576) (h2 : Ev (fun k => impl_ParsePoset.f k s) (w, z)) : Ev (fun k => laws_FnExactParsePoset.j0 k s z false w w) true := by
 have e2 : Ev (fun k => laws_FnExactParsePoset.j1 k (1 + (w.length : Int)) false (marked w 1)) true := by
  refine ev_stepb (heldPoset_ev w 1 (by omega) (by omega) (by omega)) ?_ (fun k => by simp only [laws_FnExactParsePoset.j1]; rw [if_neg (by decide)])
  exact ev_as (Ev.now _) (fun k => by rw [if_neg (by omega), if_pos rfl])
 refine ev_stepb (markPoset_ev w 1 (by omega) (by omega) (by omega)) ?_ (fun k => by simp only [laws_FnExactParsePoset.j0]; rw [if_neg (by decide)])
 refine ev_bind (heldPoset_ev w 1 (by omega) (by omega) (by omega)) ?_ (fun k => rfl)
 refine ev_bind h2 ?_ (fun k => by rw [if_neg (by omega), if_pos rfl])
 refine ev_bind (eqPoset_ev w (by omega)) ?_ (fun k => rfl)
 exact ev_as e2 (fun k => by rw [if_pos rfl, bne_self_eq_false])
theorem FnExactParsePoset (s : ByteArray) (_ : s.size ≤ 140737488351232) : ∃ k, laws_FnExactParsePoset.f k s = some true := by
 apply Ev.rounds
 unfold laws_FnExactParsePoset.f
 by_cases hs : (s.size : Int) > 1048576
 ·exact ev_as (Ev.now _) (fun k => by rw [if_pos hs])
 ·obtain ⟨w, z, hw, h1, h2⟩ := both_ParsePoset s (by omega)
  refine ev_bind h1 ?_ (fun k => by rw [if_neg hs])
  refine Ev.bind h2 ?_
  refine Ev.bind (eqPoset_ev w (by omega)) ?_
  exact ev_as (tail_ParsePoset s w z (by omega) h2) (fun k => by rw [if_pos rfl, bne_self_eq_false])
end Go.Proofs.YtkadihmhaoghfaaDoor.B
