import Derived.Test.YtkikpkfambagnaaWWords
import Derived.Test.YtkikpkfambagnaaWMore
import Derived.Laws.BitsLemmas
import Derived.Test.YtkikpkfambagnaaB1
import Derived.Test.YtkikpkfambagnaaB11
import Derived.Test.YtkikpkfambagnaaB12
import Derived.Test.YtkikpkfambagnaaB13
import Derived.Test.YtkikpkfambagnaaB2
import Derived.Test.YtkikpkfambagnaaB3
import Derived.Test.YtkikpkfambagnaaB4
import Derived.Test.YtkikpkfambagnaaB5
import Derived.Test.YtkikpkfambagnaaB6
import Derived.Test.YtkikpkfambagnaaB7
import Derived.Test.YtkikpkfambagnaaB9
/-! ### M -/
/- Plain laws on whole numbers, bits and lists, with no program in sight: what the proofs over the printed functions rest on. -/
namespace Go.Proofs.Ytkikpkfambagnaa.M
open Go.RowKit Go.Proofs.YtkikpkfambagnaaW.PrintWords Go.Proofs.YtkikpkfambagnaaW.PrintLast Go.Proofs.YtkikpkfambagnaaW.PrintMore

/-! ### rounds -/
theorem ev_now {α : Type} (r : α) : Ev (fun _ => some r) r := Ev.now r
theorem ev_const {α : Type} {g : Option α} {r : α} (h : g = some r) : Ev (fun _ => g) r := ⟨0, fun _ _ => h⟩
theorem ev_eq {α : Type} {g : Nat → Option α} {r r' : α} (h : Ev g r) (e : r = r') : Ev g r' := e ▸ h
theorem ev_unique {α : Type} {g : Nat → Option α} {r r' : α} (h : Ev g r) (h' : Ev g r') : r = r' := by
  obtain ⟨K, h⟩ := h
  obtain ⟨K', h'⟩ := h'
  have h1 := h (max K K') (by omega)
  have h2 := h' (max K K') (by omega)
  rw [h1] at h2
  exact Option.some.inj h2
/-- One round of a loop: what follows is told first. -/
theorem ev_step {α : Type} {g f : Nat → Option α} {r : α} (k : Ev f r) (h : ∀ k, g (k + 1) = f k) : Ev g r := Ev.step h k
theorem ev_as {α : Type} {g f : Nat → Option α} {r : α} (k : Ev f r) (h : ∀ k, g k = f k) : Ev g r := Ev.congr h k
theorem ev_bind {α β : Type} {A : Nat → Option α} {F : Nat → α → Option β} {g : Nat → Option β} {a : α} {r : β} (ha : Ev A a) (hb : Ev (fun n => F n a) r) (h : ∀ k, g k = (A k).bind (F k)) : Ev g r := Ev.congr h (Ev.bind ha hb)
theorem ev_stepb {α β : Type} {A : Nat → Option α} {F : Nat → α → Option β} {g : Nat → Option β} {a : α} {r : β} (ha : Ev A a) (hb : Ev (fun n => F n a) r) (h : ∀ k, g (k + 1) = (A k).bind (F k)) : Ev g r := Ev.step h (Ev.bind ha hb)
/-- A loop over places, told backwards: what holds from each place on. -/
theorem ev_down {σ β : Type} (g : Nat → σ → Int → Option β) (R : Nat → σ → β) (n : Nat) (Inv : Nat → σ → Prop)
    (hn : ∀ st, Inv n st → Ev (fun k => g k st (n : Int)) (R n st))
    (hs : ∀ (i : Nat) st, i < n → Inv i st → (∀ st', Inv (i + 1) st' → Ev (fun k => g k st' ((i : Int) + 1)) (R (i + 1) st')) → Ev (fun k => g k st (i : Int)) (R i st)) :
    ∀ (i : Nat) st, i ≤ n → Inv i st → Ev (fun k => g k st (i : Int)) (R i st) := by
  have H : ∀ d i st, n - i = d → i ≤ n → Inv i st → Ev (fun k => g k st (i : Int)) (R i st) := by
    intro d
    induction d with
    | zero =>
      intro i st hd hi hI
      obtain rfl : i = n := by omega
      exact hn st hI
    | succ d ih =>
      intro i st hd hi hI
      refine hs i st (by omega) hI (fun st' hI' => ?_)
      have := ih (i + 1) st' (by omega) (by omega) hI'
      rwa [show (((i + 1 : Nat)) : Int) = (i : Int) + 1 by omega] at this
  exact fun i st hi hI => H (n - i) i st rfl hi hI

/-! ### numbers -/
theorem wrap64_id {x : Int} (h1 : -9223372036854775808 ≤ x) (h2 : x ≤ 9223372036854775807) : wrap64 x = x := by unfold wrap64; omega
theorem rd_nat (l : List Int) (i : Nat) : rd l (i : Int) = l.getD i 0 := by unfold rd; rw [Int.toNat_natCast]
theorem rd_cast (l : List Nat) (i : Nat) : rd (l.map (fun x : Nat => (x : Int))) (i : Int) = ((l.getD i 0 : Nat) : Int) := by
  rw [rd_nat]
  simp only [List.getD_eq_getElem?_getD, List.getElem?_map]
  cases l[i]? <;> simp

/-! ### bits of small natural numbers -/
theorem w63 (n : Int) (h0 : 0 ≤ n) (h1 : n < 2 ^ 63) : IntKind.i64.wrap n = n := by rw [IntKind.wrap_i64]; omega
theorem and_nat {a b : Nat} (ha : a < 2 ^ 63) (hb : b < 2 ^ 63) : Go.bits .and .i64 (a : Int) (b : Int) = ((a &&& b : Nat) : Int) := (bits_nat .i64 63 (by decide) w63 a b ha hb).1
theorem or_nat {a b : Nat} (ha : a < 2 ^ 63) (hb : b < 2 ^ 63) : Go.bits .or .i64 (a : Int) (b : Int) = ((a ||| b : Nat) : Int) := (bits_nat .i64 63 (by decide) w63 a b ha hb).2
/-- What a set has beyond another. -/
def sd (a b : Nat) : Nat := a ^^^ (a &&& b)
theorem sd_bit (a b i : Nat) : (sd a b).testBit i = (a.testBit i && !b.testBit i) := by
  unfold sd
  rw [Nat.testBit_xor, Nat.testBit_and]
  cases a.testBit i <;> cases b.testBit i <;> rfl
theorem sd_lt {a b n : Nat} (ha : a < 2 ^ n) : sd a b < 2 ^ n := Nat.xor_lt_two_pow ha (Nat.lt_of_le_of_lt Nat.and_le_left ha)
theorem andNot_nat {a b : Nat} (ha : a < 2 ^ 63) (hb : b < 2 ^ 63) : Go.bits .andNot .i64 (a : Int) (b : Int) = ((sd a b : Nat) : Int) := by
  have h1 : (BitVec.ofInt 64 (a : Int) &&& ~~~ BitVec.ofInt 64 (b : Int)).toNat = sd a b := by
    apply Nat.eq_of_testBit_eq
    intro i
    rw [BitVec.testBit_toNat, sd_bit, BitVec.getLsbD_and, BitVec.getLsbD_not, ← BitVec.testBit_toNat, ← BitVec.testBit_toNat, BitVec.ofInt_natCast, BitVec.ofInt_natCast, BitVec.toNat_ofNat, BitVec.toNat_ofNat,
      Nat.mod_eq_of_lt (by omega : a < 2 ^ 64), Nat.mod_eq_of_lt (by omega : b < 2 ^ 64)]
    by_cases hi : i < 64
    · simp [hi]
    · have : a.testBit i = false := Nat.testBit_lt_two_pow (Nat.lt_of_lt_of_le (by omega : a < 2 ^ 64) (Nat.pow_le_pow_right (by decide) (by omega)))
      simp [this]
  show IntKind.i64.wrap ((BitVec.ofInt 64 (a : Int) &&& ~~~ BitVec.ofInt 64 (b : Int)).toNat : Int) = _
  rw [h1]
  have := sd_lt (b := b) ha
  exact w63 _ (by omega) (by exact_mod_cast this)
theorem xor_nat {a b : Nat} (ha : a < 2 ^ 63) (hb : b < 2 ^ 63) : Go.bits .xor .i64 (a : Int) (b : Int) = ((a ^^^ b : Nat) : Int) := by
  have h1 : (BitVec.ofInt 64 (a : Int) ^^^ BitVec.ofInt 64 (b : Int)).toNat = a ^^^ b := by
    rw [BitVec.toNat_xor, BitVec.ofInt_natCast, BitVec.ofInt_natCast, BitVec.toNat_ofNat, BitVec.toNat_ofNat, Nat.mod_eq_of_lt (by omega : a < 2 ^ 64), Nat.mod_eq_of_lt (by omega : b < 2 ^ 64)]
  show IntKind.i64.wrap ((BitVec.ofInt 64 (a : Int) ^^^ BitVec.ofInt 64 (b : Int)).toNat : Int) = _
  rw [h1]
  have := Nat.xor_lt_two_pow ha hb
  exact w63 _ (by omega) (by exact_mod_cast this)
theorem shl_one {i : Nat} (hi : i < 63) : shl .i64 1 (i : Int) = ((2 ^ i : Nat) : Int) := by
  unfold shl
  rw [Int.toNat_natCast, show IntKind.i64.bits = 64 from rfl, Nat.min_eq_left (by omega), Int.one_mul]
  have h : (2 : Nat) ^ i < 2 ^ 63 := Nat.pow_lt_pow_right (by decide) hi
  rw [w63 _ (Int.pow_nonneg (by decide)) (by exact_mod_cast h)]
  simp
theorem shr_nat {s i : Nat} (hi : i ≤ 64) : shr .i64 (s : Int) (i : Int) = ((s / 2 ^ i : Nat) : Int) := by
  unfold shr
  rw [Int.toNat_natCast, show IntKind.i64.bits = 64 from rfl, Nat.min_eq_left hi]
  simp
theorem bit_div (s i : Nat) : s.testBit i = decide (s / 2 ^ i % 2 = 1) := by
  rw [Nat.testBit_eq_decide_div_mod_eq]
theorem bit_tmod {s i : Nat} (hi : i ≤ 64) : (Int.tmod (shr .i64 (s : Int) (i : Int)) 2 = 1) ↔ s.testBit i = true := by
  rw [shr_nat hi, bit_div, decide_eq_true_eq, Int.tmod_eq_emod_of_nonneg (Int.natCast_nonneg _)]
  generalize s / 2 ^ i = q
  omega
theorem bit_and1 {s i : Nat} (hs : s < 2 ^ 63) (hi : i ≤ 64) : (Go.bits .and .i64 (shr .i64 (s : Int) (i : Int)) 1 = 1) ↔ s.testBit i = true := by
  have h2 : s / 2 ^ i < 2 ^ 63 := Nat.lt_of_le_of_lt (Nat.div_le_self _ _) hs
  rw [shr_nat hi, show (1 : Int) = ((1 : Nat) : Int) from rfl, and_nat h2 (by decide), bit_div, decide_eq_true_eq, Nat.and_one_is_mod]
  omega
theorem two_pow_le {i j : Nat} (h : i ≤ j) : (2 : Nat) ^ i ≤ 2 ^ j := Nat.pow_le_pow_right (by decide) h
theorem two_pow_lt63 {i : Nat} (h : i < 63) : (2 : Nat) ^ i < 2 ^ 63 := Nat.pow_lt_pow_right (by decide) h
theorem mask_sub {i : Nat} (hi : i < 63) : wrap64 (shl .i64 1 (i : Int) - 1) = ((2 ^ i - 1 : Nat) : Int) := by
  rw [shl_one hi]
  have h := two_pow_lt63 hi
  have h1 : 1 ≤ 2 ^ i := Nat.one_le_two_pow
  unfold wrap64
  omega

/-! ### folds from a place on -/
def foldFrom {σ : Type} (f : σ → Nat → σ) (i n : Nat) (st : σ) : σ := (List.range' i (n - i)).foldl f st
theorem foldFrom_end {σ : Type} (f : σ → Nat → σ) (n : Nat) (st : σ) : foldFrom f n n st = st := by unfold foldFrom; simp
theorem foldFrom_step {σ : Type} (f : σ → Nat → σ) {i n : Nat} (h : i < n) (st : σ) : foldFrom f i n st = foldFrom f (i + 1) n (f st i) := by
  unfold foldFrom
  obtain ⟨d, hd⟩ : ∃ d, n - i = d + 1 := ⟨n - i - 1, by omega⟩
  rw [hd, show n - (i + 1) = d by omega, List.range'_succ, List.foldl_cons]
def allFrom (f : Nat → Bool) (i n : Nat) : Bool := (List.range' i (n - i)).all f
theorem allFrom_end (f : Nat → Bool) (n : Nat) : allFrom f n n = true := by unfold allFrom; simp
theorem allFrom_step (f : Nat → Bool) {i n : Nat} (h : i < n) : allFrom f i n = (f i && allFrom f (i + 1) n) := by
  unfold allFrom
  obtain ⟨d, hd⟩ : ∃ d, n - i = d + 1 := ⟨n - i - 1, by omega⟩
  rw [hd, show n - (i + 1) = d by omega, List.range'_succ, List.all_cons]
theorem allFrom_iff (f : Nat → Bool) (i n : Nat) : allFrom f i n = true ↔ ∀ j, i ≤ j → j < n → f j = true := by
  unfold allFrom
  rw [List.all_eq_true]
  constructor
  · intro h j h1 h2
    exact h j (by rw [List.mem_range'_1]; omega)
  · intro h j hj
    rw [List.mem_range'_1] at hj
    exact h j (by omega) (by omega)
theorem drop_step {α : Type} (xs : List α) (d : α) {i : Nat} (h : i < xs.length) : xs.drop i = xs.getD i d :: xs.drop (i + 1) := by
  rw [List.drop_eq_getElem_cons h]
  congr 1
  rw [List.getD_eq_getElem?_getD, List.getElem?_eq_getElem h, Option.getD_some]

theorem getD_memN {o : List Nat} {i : Nat} (h : i < o.length) : o.getD i 0 ∈ o := by
  rw [List.getD_eq_getElem?_getD, List.getElem?_eq_getElem h, Option.getD_some]; exact List.getElem_mem h
/-! ### sets of elements below 10 -/
def items (s : Nat) : List Nat := (List.range 10).filter (fun e => s.testBit e)
def itemsUpto (s e : Nat) : List Nat := (List.range e).filter (fun e => s.testBit e)
theorem mem_items {s e : Nat} : e ∈ items s ↔ e < 10 ∧ s.testBit e = true := by
  unfold items; rw [List.mem_filter, List.mem_range]
theorem bit_lt {s n e : Nat} (hs : s < 2 ^ n) (h : s.testBit e = true) : e < n := by
  rcases Nat.lt_or_ge e n with h1 | h1
  · exact h1
  · have := Nat.testBit_lt_two_pow (Nat.lt_of_lt_of_le hs (two_pow_le h1))
    rw [this] at h; cases h
theorem filter_range_ext {s n m : Nat} (hs : s < 2 ^ n) (hm : n ≤ m) : (List.range m).filter (fun e => s.testBit e) = (List.range n).filter (fun e => s.testBit e) := by
  obtain ⟨d, rfl⟩ : ∃ d, m = n + d := ⟨m - n, by omega⟩
  induction d with
  | zero => rfl
  | succ d ih =>
    rw [← Nat.add_assoc, List.range_succ, List.filter_append, ih (by omega)]
    have : s.testBit (n + d) = false := Nat.testBit_lt_two_pow (Nat.lt_of_lt_of_le hs (two_pow_le (by omega)))
    simp [this]
theorem items_eq {s n : Nat} (hs : s < 2 ^ n) (hn : n ≤ 10) : items s = (List.range n).filter (fun e => s.testBit e) := filter_range_ext hs hn
theorem foldl_filter {α σ : Type} (p : α → Bool) (f : σ → α → σ) (l : List α) (st : σ) : (l.filter p).foldl f st = l.foldl (fun st x => if p x then f st x else st) st := by
  induction l generalizing st with
  | nil => rfl
  | cons x l ih =>
    rw [List.filter_cons]
    cases hp : p x <;> simp [hp, ih]
/-- What a fold over the elements of a set is: a fold over all places. -/
theorem fold_items {σ : Type} (f : σ → Nat → σ) {s n : Nat} (hs : s < 2 ^ n) (hn : n ≤ 10) (st : σ) : (items s).foldl f st = foldFrom (fun st e => if s.testBit e then f st e else st) 0 n st := by
  rw [items_eq hs hn, foldl_filter]
  unfold foldFrom
  rw [Nat.sub_zero, List.range_eq_range']
theorem all_filter {α : Type} (p f : α → Bool) (l : List α) : (l.filter p).all f = l.all (fun x => !p x || f x) := by
  induction l with
  | nil => rfl
  | cons x l ih =>
    rw [List.filter_cons]
    cases hp : p x <;> simp [hp, ih]
theorem all_items (f : Nat → Bool) {s n : Nat} (hs : s < 2 ^ n) (hn : n ≤ 10) : (items s).all f = allFrom (fun e => !s.testBit e || f e) 0 n := by
  rw [items_eq hs hn, all_filter]
  unfold allFrom
  rw [Nat.sub_zero, List.range_eq_range']

/-! ### sets of elements of a poset, told by their bits -/
theorem foldFrom_inv {σ : Type} (f : σ → Nat → σ) (Q : Nat → σ → Prop) (n : Nat) (hs : ∀ i st, i < n → Q i st → Q (i + 1) (f st i)) : ∀ (i : Nat) (st : σ), i ≤ n → Q i st → Q n (foldFrom f i n st) := by
  have H : ∀ d i st, n - i = d → i ≤ n → Q i st → Q n (foldFrom f i n st) := by
    intro d
    induction d with
    | zero =>
      intro i st hd hi hQ
      obtain rfl : i = n := by omega
      rw [foldFrom_end]; exact hQ
    | succ d ih =>
      intro i st hd hi hQ
      rw [foldFrom_step _ (by omega)]
      exact ih (i + 1) _ (by omega) (by omega) (hs i st (by omega) hQ)
  exact fun i st hi hQ => H (n - i) i st rfl hi hQ
/-- The least ideal with a set. -/
def dn (P : List Nat) (s : Nat) : Nat := foldFrom (fun o i => if s.testBit i then o ||| P.getD i 0 else o) 0 P.length s
/-- What is not less than another one of the set. -/
def tp (P : List Nat) (s : Nat) : Nat := foldFrom (fun o i => if s.testBit i then sd o (P.getD i 0) else o) 0 P.length s
/-- What has nothing of the set below. -/
def bm (P : List Nat) (s : Nat) : Nat := foldFrom (fun o i => if s.testBit i then (if P.getD i 0 &&& s = 0 then o ||| 2 ^ i else o) else o) 0 P.length 0
/-- Is the set an ideal? -/
def idl (P : List Nat) (s : Nat) : Bool := allFrom (fun i => !s.testBit i || decide (sd (P.getD i 0) s = 0)) 0 P.length
theorem sd_eq_zero {a b : Nat} : sd a b = 0 ↔ ∀ j, a.testBit j = true → b.testBit j = true := by
  constructor
  · intro h j hj
    have := sd_bit a b j
    rw [h, Nat.zero_testBit, hj] at this
    cases hb : b.testBit j <;> simp [hb] at this ⊢
  · intro h
    apply Nat.eq_of_testBit_eq
    intro j
    rw [sd_bit, Nat.zero_testBit]
    cases hj : a.testBit j with
    | false => rfl
    | true => rw [h j hj]; rfl
theorem and_eq_zero {a b : Nat} : a &&& b = 0 ↔ ∀ j, a.testBit j = true → b.testBit j = false := by
  constructor
  · intro h j hj
    have := Nat.testBit_and a b j
    rw [h, Nat.zero_testBit, hj, Bool.true_and] at this
    exact this.symm
  · intro h
    apply Nat.eq_of_testBit_eq
    intro j
    rw [Nat.testBit_and, Nat.zero_testBit]
    cases hj : a.testBit j with
    | false => rfl
    | true => rw [h j hj]; rfl
theorem dn_bit (P : List Nat) (s j : Nat) : (dn P s).testBit j = true ↔ s.testBit j = true ∨ ∃ i, i < P.length ∧ s.testBit i = true ∧ (P.getD i 0).testBit j = true := by
  have H := foldFrom_inv (fun o i => if s.testBit i then o ||| P.getD i 0 else o) (fun m o => o.testBit j = true ↔ s.testBit j = true ∨ ∃ i, i < m ∧ s.testBit i = true ∧ (P.getD i 0).testBit j = true) P.length ?_ 0 s (by omega) ?_
  · exact H
  · intro i o hi hQ
    cases hb : s.testBit i with
    | true =>
      rw [if_pos rfl, Nat.testBit_or, Bool.or_eq_true, hQ]
      constructor
      · rintro ((h | ⟨i', h1, h2, h3⟩) | h)
        · exact .inl h
        · exact .inr ⟨i', by omega, h2, h3⟩
        · exact .inr ⟨i, by omega, hb, h⟩
      · rintro (h | ⟨i', h1, h2, h3⟩)
        · exact .inl (.inl h)
        · rcases Nat.lt_or_ge i' i with h4 | h4
          · exact .inl (.inr ⟨i', h4, h2, h3⟩)
          · rw [show i' = i by omega] at h3; exact .inr h3
    | false =>
      rw [if_neg (by simp), hQ]
      constructor
      · rintro (h | ⟨i', h1, h2, h3⟩)
        · exact .inl h
        · exact .inr ⟨i', by omega, h2, h3⟩
      · rintro (h | ⟨i', h1, h2, h3⟩)
        · exact .inl h
        · rcases Nat.lt_or_ge i' i with h4 | h4
          · exact .inr ⟨i', h4, h2, h3⟩
          · rw [show i' = i by omega, hb] at h2; cases h2
  · constructor
    · exact .inl
    · rintro (h | ⟨i', h1, _⟩)
      · exact h
      · omega
theorem tp_bit (P : List Nat) (s j : Nat) : (tp P s).testBit j = true ↔ s.testBit j = true ∧ ∀ i, i < P.length → s.testBit i = true → (P.getD i 0).testBit j = false := by
  have H := foldFrom_inv (fun o i => if s.testBit i then sd o (P.getD i 0) else o) (fun m o => o.testBit j = true ↔ s.testBit j = true ∧ ∀ i, i < m → s.testBit i = true → (P.getD i 0).testBit j = false) P.length ?_ 0 s (by omega) ?_
  · exact H
  · intro i o hi hQ
    cases hb : s.testBit i with
    | true =>
      rw [if_pos rfl, sd_bit, Bool.and_eq_true, hQ]
      constructor
      · rintro ⟨⟨h1, h2⟩, h3⟩
        refine ⟨h1, fun i' hi' hs' => ?_⟩
        rcases Nat.lt_or_ge i' i with h4 | h4
        · exact h2 i' h4 hs'
        · rw [show i' = i by omega]; simpa using h3
      · rintro ⟨h1, h2⟩
        exact ⟨⟨h1, fun i' hi' => h2 i' (by omega)⟩, by simpa using h2 i (by omega) hb⟩
    | false =>
      rw [if_neg (by simp), hQ]
      constructor
      · rintro ⟨h1, h2⟩
        refine ⟨h1, fun i' hi' hs' => ?_⟩
        rcases Nat.lt_or_ge i' i with h4 | h4
        · exact h2 i' h4 hs'
        · rw [show i' = i by omega, hb] at hs'; cases hs'
      · rintro ⟨h1, h2⟩
        exact ⟨h1, fun i' hi' => h2 i' (by omega)⟩
  · exact ⟨fun h => ⟨h, fun i hi => absurd hi (by omega)⟩, fun h => h.1⟩
theorem bm_bit (P : List Nat) (s j : Nat) : (bm P s).testBit j = true ↔ j < P.length ∧ s.testBit j = true ∧ P.getD j 0 &&& s = 0 := by
  have H := foldFrom_inv (fun o i => if s.testBit i then (if P.getD i 0 &&& s = 0 then o ||| 2 ^ i else o) else o) (fun m o => o.testBit j = true ↔ j < m ∧ s.testBit j = true ∧ P.getD j 0 &&& s = 0) P.length ?_ 0 0 (by omega) ?_
  · exact H
  · intro i o hi hQ
    cases hb : s.testBit i with
    | true =>
      by_cases h0 : P.getD i 0 &&& s = 0
      · simp only [h0, if_true]
        rw [Nat.testBit_or, Bool.or_eq_true, hQ, Nat.testBit_two_pow, decide_eq_true_eq]
        constructor
        · rintro (⟨h1, h2⟩ | rfl)
          · exact ⟨by omega, h2⟩
          · exact ⟨by omega, hb, h0⟩
        · rintro ⟨h1, h2⟩
          rcases Nat.lt_or_ge j i with h4 | h4
          · exact .inl ⟨h4, h2⟩
          · exact .inr (by omega)
      · simp only [h0, if_true, if_false]
        rw [hQ]
        constructor
        · rintro ⟨h1, h2⟩; exact ⟨by omega, h2⟩
        · rintro ⟨h1, h2, h3⟩
          rcases Nat.lt_or_ge j i with h4 | h4
          · exact ⟨h4, h2, h3⟩
          · rw [show j = i by omega] at h3; exact absurd h3 h0
    | false =>
      simp only [Bool.false_eq_true, if_false]
      rw [hQ]
      constructor
      · rintro ⟨h1, h2⟩; exact ⟨by omega, h2⟩
      · rintro ⟨h1, h2, h3⟩
        rcases Nat.lt_or_ge j i with h4 | h4
        · exact ⟨h4, h2, h3⟩
        · rw [show j = i by omega, hb] at h2; cases h2
  · simp
theorem idl_iff (P : List Nat) (s : Nat) : idl P s = true ↔ ∀ i, i < P.length → s.testBit i = true → ∀ j, (P.getD i 0).testBit j = true → s.testBit j = true := by
  unfold idl
  rw [allFrom_iff]
  constructor
  · intro h i hi hs
    have := h i (by omega) hi
    rw [hs] at this
    simp only [Bool.not_true, Bool.false_or, decide_eq_true_eq] at this
    exact sd_eq_zero.1 this
  · intro h i _ hi
    cases hs : s.testBit i with
    | false => simp
    | true => rw [decide_eq_true (sd_eq_zero.2 (h i hi hs))]; rfl
theorem idl_dn (P : List Nat) (s : Nat) : idl P s = decide (dn P s = s) := by
  rw [Bool.eq_iff_iff, idl_iff, decide_eq_true_eq]
  constructor
  · intro h
    apply Nat.eq_of_testBit_eq
    intro j
    rw [Bool.eq_iff_iff, dn_bit]
    constructor
    · rintro (h1 | ⟨i, h1, h2, h3⟩)
      · exact h1
      · exact h i h1 h2 j h3
    · exact .inl
  · intro h i hi hs j hj
    rw [← h, dn_bit]
    exact .inr ⟨i, hi, hs, hj⟩
theorem lt_of_bits {x n : Nat} (h : ∀ j, x.testBit j = true → j < n) : x < 2 ^ n := by
  apply Nat.lt_pow_two_of_testBit
  intro i hi
  cases hb : x.testBit i with
  | false => rfl
  | true => have := h i hb; omega
end Go.Proofs.Ytkikpkfambagnaa.M

/-! ### G -/
/- What the small functions on posets answer, and which posets are good: the reference's test and the program's test are one. -/
namespace Go.Proofs.Ytkikpkfambagnaa.B
open Go.RowKit Go.Proofs.Ytkikpkfambagnaa.M Go.Proofs.YtkikpkfambagnaaW.PrintWords Go.Proofs.YtkikpkfambagnaaW.PrintLast Go.Proofs.YtkikpkfambagnaaW.PrintMore

attribute [local irreducible] Go.bits shl shr sd
/-! ### small functions -/
theorem l1In_is (a b c : Int) : spec_l1In.f a b c = some (decide (b ≤ a ∧ a ≤ c)) := by
  unfold spec_l1In.f
  by_cases h : a ≥ b
  · rw [if_pos h]; simp [show b ≤ a from h]
  · rw [if_neg h]; simp [show ¬ b ≤ a from h]
theorem within_is (a b c : Int) : impl_within.f a b c = some (decide (b ≤ a ∧ a ≤ c)) := by
  unfold impl_within.f
  by_cases h : b ≤ a
  · rw [if_pos h]; simp [h]
  · rw [if_neg h]; simp [h]
theorem has_is {s e : Nat} (hs : s < 2 ^ 63) (he : e ≤ 64) : impl_has.f (s : Int) (e : Int) = some (s.testBit e) := by
  unfold impl_has.f
  rw [if_pos (by omega)]
  congr 1
  have := bit_and1 hs he
  cases hb : s.testBit e
  · rw [hb] at this; simpa using this
  · rw [hb] at this; simpa using this
theorem items_l0 {s : Nat} (hs : s < 2 ^ 63) : ∀ (e : Nat) (_ : Unit), e ≤ 10 → True →
    Ev (fun k => impl_items.l0 k (s : Int) ((itemsUpto s e).map (fun x : Nat => (x : Int))) (e : Int)) ((items s).map (fun x : Nat => (x : Int))) := by
  have H : ∀ (e : Nat) (st : List Int), e ≤ 10 → st = (itemsUpto s e).map (fun x : Nat => (x : Int)) → Ev (fun k => impl_items.l0 k (s : Int) st (e : Int)) ((items s).map (fun x : Nat => (x : Int))) := by
    refine ev_down (fun k (st : List Int) e => impl_items.l0 k (s : Int) st e) (fun _ _ => (items s).map (fun x : Nat => (x : Int))) 10 (fun e st => st = (itemsUpto s e).map (fun x : Nat => (x : Int))) ?_ ?_
    · rintro st rfl
      exact ev_step (Ev.now _) (fun k => by simp only [impl_items.l0]; rw [if_neg (by omega)]; rfl)
    · rintro e st he rfl ih
      have hl : (itemsUpto s e).length ≤ e := by unfold itemsUpto; exact Nat.le_trans (List.length_filter_le _ _) (by simp)
      have hw : wrap64 ((e : Int) + 1) = (e : Int) + 1 := wrap64_id (by omega) (by omega)
      have hn : itemsUpto s (e + 1) = itemsUpto s e ++ (if s.testBit e then [e] else []) := by
        unfold itemsUpto
        rw [List.range_succ, List.filter_append]
        cases h : s.testBit e <;> simp [h]
      cases hb : s.testBit e with
      | true =>
        refine ev_step (ih _ rfl) (fun k => ?_)
        simp only [impl_items.l0]
        rw [if_pos (by omega), has_is hs (by omega), hb, Option.bind_some, if_pos rfl, if_pos (by rw [List.length_map]; omega), hw, hn, hb, if_pos rfl, List.map_append]
        rfl
      | false =>
        refine ev_step (ih _ rfl) (fun k => ?_)
        simp only [impl_items.l0]
        rw [if_pos (by omega), has_is hs (by omega), hb, Option.bind_some, if_neg (by decide), hw, hn, hb, if_neg (by decide), List.append_nil]
  exact fun e _ he _ => H e _ he rfl
theorem items_ev {s : Nat} (hs : s < 2 ^ 63) : Ev (fun k => impl_items.f k (s : Int)) ((items s).map (fun x : Nat => (x : Int))) := by
  unfold impl_items.f
  have := items_l0 hs 0 () (by omega) trivial
  simpa [itemsUpto] using this

/-! ### good posets -/
def cellB (l : List Int) (i j : Nat) : Bool := !((l.getD i 0).toNat.testBit j) || decide (sd (l.getD j 0).toNat (l.getD i 0).toNat = 0)
def rowB (l : List Int) (i : Nat) : Bool := decide (0 ≤ l.getD i 0 ∧ l.getD i 0 ≤ ((2 ^ i - 1 : Nat) : Int)) && allFrom (cellB l i) 0 i
def goodB (l : List Int) : Bool := decide (1 ≤ (l.length : Int) ∧ (l.length : Int) ≤ 10) && allFrom (rowB l) 0 l.length
theorem rowB_bound {l : List Int} {i : Nat} (h : rowB l i = true) : ∃ x : Nat, l.getD i 0 = (x : Int) ∧ x < 2 ^ i := by
  unfold rowB at h
  rw [Bool.and_eq_true, decide_eq_true_eq] at h
  have := Nat.one_le_two_pow (n := i)
  exact ⟨(l.getD i 0).toNat, by omega, by omega⟩
theorem p63 {x i : Nat} (h : x < 2 ^ i) (hi : i ≤ 62) : x < 2 ^ 63 := Nat.lt_of_lt_of_le h (two_pow_le (by omega))
theorem sd_zero_nat {a b : Nat} : ((sd a b : Nat) : Int) = 0 ↔ sd a b = 0 := by omega

theorem poGood_l1 (l : List Int) (i : Nat) (hn : l.length ≤ 10) (hi : i < l.length) (hp : ∀ j, j < i → rowB l j = true) {x : Nat} (hx : l.getD i 0 = (x : Int)) (hxi : x < 2 ^ i) (r : Bool)
    (hnext : (∀ j, j < i → cellB l i j = true) → Ev (fun k => spec_poGood.l0 k l (l.length : Int) ((i : Int) + 1) l) r) :
    ∀ (j : Nat) (_ : Unit), j ≤ i → (∀ j', j' < j → cellB l i j' = true) → Ev (fun k => spec_poGood.l1 k (i : Int) (x : Int) (j : Int) l (l.length : Int) (i : Int) l) (allFrom (cellB l i) j i && r) := by
  refine ev_down (fun k (_ : Unit) j => spec_poGood.l1 k (i : Int) (x : Int) j l (l.length : Int) (i : Int) l) (fun j _ => allFrom (cellB l i) j i && r) i (fun j _ => ∀ j', j' < j → cellB l i j' = true) ?_ ?_
  · intro _ hall
    rw [allFrom_end, Bool.true_and]
    exact ev_step (hnext hall) (fun k => by simp only [spec_poGood.l1]; rw [if_neg (by omega), wrap64_id (by omega) (by omega)])
  · intro j _ hj hall ih
    have hw : wrap64 ((j : Int) + 1) = (j : Int) + 1 := wrap64_id (by omega) (by omega)
    obtain ⟨y, hy, hyj⟩ := rowB_bound (hp j hj)
    have hc : cellB l i j = (!(x.testBit j) || decide (sd y x = 0)) := by unfold cellB; rw [hx, hy, Int.toNat_natCast, Int.toNat_natCast]
    have hb := bit_tmod (s := x) (i := j) (by omega)
    have c1 : (j : Int) < (i : Int) := by omega
    have c2 : 0 ≤ (j : Int) := by omega
    have c3 : (j : Int) < (l.length : Int) := by omega
    have ih' : cellB l i j = true → Ev (fun k => spec_poGood.l1 k (i : Int) (x : Int) ((j : Int) + 1) l (l.length : Int) (i : Int) l) (allFrom (cellB l i) (j + 1) i && r) := fun h =>
      ih () (fun j' hj' => by rcases Nat.lt_or_ge j' j with h1 | h1; exact hall j' h1; rw [show j' = j by omega]; exact h)
    have hz := andNot_nat (p63 hyj (by omega)) (p63 hxi (by omega))
    rw [allFrom_step _ hj]
    cases hbit : x.testBit j with
    | true =>
      have hb1 := hb.2 hbit
      by_cases h0 : sd y x = 0
      · have hcj : cellB l i j = true := by rw [hc, h0]; simp
        rw [hcj, Bool.true_and]
        exact ev_step (ih' hcj) (fun k => by simp only [spec_poGood.l1]; rw [if_pos c1, if_pos c2, if_pos hb1, if_pos c3, rd_nat, hy, hz, if_pos (sd_zero_nat.2 h0), hw])
      · have hcj : cellB l i j = false := by rw [hc, hbit]; simp [h0]
        rw [hcj, Bool.false_and, Bool.false_and]
        exact ev_step (Ev.now _) (fun k => by simp only [spec_poGood.l1]; rw [if_pos c1, if_pos c2, if_pos hb1, if_pos c3, rd_nat, hy, hz, if_neg (fun h => h0 (sd_zero_nat.1 h))])
    | false =>
      have hb1 : ¬ (Int.tmod (shr .i64 (x : Int) (j : Int)) 2 = 1) := fun h => by rw [hb.1 h] at hbit; cases hbit
      have hcj : cellB l i j = true := by rw [hc, hbit]; simp
      rw [hcj, Bool.true_and]
      exact ev_step (ih' hcj) (fun k => by simp only [spec_poGood.l1]; rw [if_pos c1, if_pos c2, if_neg hb1, hw])
theorem poGood_l0 (l : List Int) (hn : l.length ≤ 10) : ∀ (i : Nat) (_ : Unit), i ≤ l.length → (∀ j, j < i → rowB l j = true) → Ev (fun k => spec_poGood.l0 k l (l.length : Int) (i : Int) l) (allFrom (rowB l) i l.length) := by
  refine ev_down (fun k (_ : Unit) i => spec_poGood.l0 k l (l.length : Int) i l) (fun i _ => allFrom (rowB l) i l.length) l.length (fun i _ => ∀ j, j < i → rowB l j = true) ?_ ?_
  · intro _ _
    rw [allFrom_end]
    exact ev_step (Ev.now _) (fun k => by simp only [spec_poGood.l0]; rw [if_neg (by omega)])
  · intro i _ hi hp ih
    have hm := mask_sub (i := i) (by omega)
    have c1 : (i : Int) < (l.length : Int) := by omega
    have c2 : 0 ≤ (i : Int) := by omega
    rw [allFrom_step _ hi]
    by_cases hb : 0 ≤ l.getD i 0 ∧ l.getD i 0 ≤ ((2 ^ i - 1 : Nat) : Int)
    · have h1 := Nat.one_le_two_pow (n := i)
      obtain ⟨x, hx⟩ : ∃ x : Nat, l.getD i 0 = (x : Int) := ⟨(l.getD i 0).toNat, by omega⟩
      have hxi : x < 2 ^ i := by omega
      have hr : rowB l i = allFrom (cellB l i) 0 i := by unfold rowB; rw [decide_eq_true hb, Bool.true_and]
      rw [hr]
      refine ev_step (poGood_l1 l i hn hi hp hx hxi (allFrom (rowB l) (i + 1) l.length) (fun hall => ih () (fun j hj => ?_)) 0 () (by omega) (fun _ h => absurd h (by omega))) (fun k => ?_)
      · rcases Nat.lt_or_ge j i with h | h
        · exact hp j h
        · rw [show j = i by omega, hr]
          exact (allFrom_iff _ _ _).2 (fun j' _ h2 => hall j' h2)
      · simp only [spec_poGood.l0]
        rw [if_pos c1, if_pos c2, if_pos c1, rd_nat, hm, l1In_is, decide_eq_true hb, hx, Option.bind_some, if_pos rfl]
        rfl
    · have hr : rowB l i = false := by unfold rowB; rw [decide_eq_false hb, Bool.false_and]
      rw [hr, Bool.false_and]
      exact ev_step (Ev.now _) (fun k => by simp only [spec_poGood.l0]; rw [if_pos c1, if_pos c2, if_pos c1, rd_nat, hm, l1In_is, decide_eq_false hb, Option.bind_some, if_neg (by decide)])
theorem poGood_ev (l : List Int) : Ev (fun k => spec_poGood.f k l) (goodB l) := by
  unfold spec_poGood.f goodB
  rw [l1In_is]
  by_cases h : 1 ≤ (l.length : Int) ∧ (l.length : Int) ≤ 10
  · rw [decide_eq_true h, Bool.true_and]
    exact ev_as (poGood_l0 l (by omega) 0 () (by omega) (fun _ h => absurd h (by omega))) (fun k => by rw [Option.bind_some, if_pos rfl]; rfl)
  · rw [decide_eq_false h, Bool.false_and]
    exact ev_as (Ev.now _) (fun k => by rw [Option.bind_some, if_neg (by decide)])
abbrev cast (P : List Nat) : List Int := P.map (fun x : Nat => (x : Int))
theorem cast_length (P : List Nat) : ((cast P).length : Int) = (P.length : Int) := by simp
/-- What the program asks of the elements below one. -/
def subB (l : List Int) (x j : Nat) : Bool := decide (sd (l.getD j 0).toNat x = 0)
theorem IsPoset_l1 (l : List Int) (i : Nat) (hn : l.length ≤ 10) (hi : i < l.length) (hp : ∀ j, j < i → rowB l j = true) {x : Nat} (hxi : x < 2 ^ i) (r : Bool)
    (hnext : (∀ j, j ∈ items x → subB l x j = true) → Ev (fun k => impl_IsPoset.l0 k l (l.length : Int) ((i : Int) + 1) l) r) :
    ∀ (e : Nat) (_ : Unit), e ≤ (items x).length → (∀ j, j ∈ (items x).take e → subB l x j = true) →
      Ev (fun k => impl_IsPoset.l1 k (x : Int) l (l.length : Int) (i : Int) (cast (items x)) ((cast (items x)).length : Int) (e : Int) l) (((items x).drop e).all (subB l x) && r) := by
  have hlen : (items x).length ≤ 10 := by unfold items; exact Nat.le_trans (List.length_filter_le _ _) (by simp)
  refine ev_down (fun k (_ : Unit) e => impl_IsPoset.l1 k (x : Int) l (l.length : Int) (i : Int) (cast (items x)) ((cast (items x)).length : Int) e l) (fun e _ => ((items x).drop e).all (subB l x) && r) (items x).length (fun e _ => ∀ j, j ∈ (items x).take e → subB l x j = true) ?_ ?_
  · intro _ hall
    rw [List.drop_length, List.all_nil, Bool.true_and]
    exact ev_step (hnext (fun j hj => hall j (by rw [List.take_length]; exact hj))) (fun k => by simp only [impl_IsPoset.l1]; rw [if_neg (by rw [cast_length]; omega), wrap64_id (by omega) (by omega)])
  · intro e _ he hall ih
    have hw : wrap64 ((e : Int) + 1) = (e : Int) + 1 := wrap64_id (by omega) (by omega)
    obtain ⟨j, hj⟩ : ∃ j, (items x).getD e 0 = j := ⟨_, rfl⟩
    have hmem : j ∈ items x := by rw [← hj, List.getD_eq_getElem?_getD, List.getElem?_eq_getElem he, Option.getD_some]; exact List.getElem_mem he
    have hji : j < i := bit_lt hxi (mem_items.1 hmem).2
    obtain ⟨y, hy, hyj⟩ := rowB_bound (hp j hji)
    have c1 : (e : Int) < ((cast (items x)).length : Int) := by rw [cast_length]; omega
    have c2 : 0 ≤ (e : Int) := by omega
    have c3 : (e : Int) < ((cast (items x)).length : Int) := by rw [cast_length]; omega
    have c4 : 0 ≤ (j : Int) := by omega
    have c5 : (j : Int) < (l.length : Int) := by omega
    have hs : subB l x j = decide (sd y x = 0) := by unfold subB; rw [hy, Int.toNat_natCast]
    have hz := andNot_nat (p63 hyj (by omega)) (p63 hxi (by omega))
    rw [drop_step (items x) 0 he, hj, List.all_cons]
    by_cases h0 : sd y x = 0
    · have hsj : subB l x j = true := by rw [hs, h0]; simp
      rw [hsj, Bool.true_and]
      refine ev_step (ih () (fun j' hj' => ?_)) (fun k => ?_)
      · rw [List.take_add_one, List.mem_append] at hj'
        rcases hj' with h1 | h1
        · exact hall j' h1
        · rw [List.getElem?_eq_getElem he] at h1
          have : j' = j := by rw [← hj, List.getD_eq_getElem?_getD, List.getElem?_eq_getElem he]; simpa using h1
          rw [this]; exact hsj
      · simp only [impl_IsPoset.l1]
        rw [if_pos c1, if_pos c2, if_pos c3, rd_cast, hj, if_pos c4, if_pos c5, rd_nat, hy, hz, if_pos (sd_zero_nat.2 h0), hw]
    · have hsj : subB l x j = false := by rw [hs]; simp [h0]
      rw [hsj, Bool.false_and, Bool.false_and]
      refine ev_step (Ev.now _) (fun k => ?_)
      simp only [impl_IsPoset.l1]
      rw [if_pos c1, if_pos c2, if_pos c3, rd_cast, hj, if_pos c4, if_pos c5, rd_nat, hy, hz, if_neg (fun h => h0 (sd_zero_nat.1 h))]
theorem cell_sub (l : List Int) {i x : Nat} (hi : i ≤ 10) (hx : l.getD i 0 = (x : Int)) (hxi : x < 2 ^ i) : (items x).all (subB l x) = allFrom (cellB l i) 0 i := by
  rw [all_items _ hxi hi]
  congr 1
  funext j
  unfold cellB subB
  rw [hx, Int.toNat_natCast]
theorem IsPoset_l0 (l : List Int) (hn : l.length ≤ 10) : ∀ (i : Nat) (_ : Unit), i ≤ l.length → (∀ j, j < i → rowB l j = true) → Ev (fun k => impl_IsPoset.l0 k l (l.length : Int) (i : Int) l) (allFrom (rowB l) i l.length) := by
  refine ev_down (fun k (_ : Unit) i => impl_IsPoset.l0 k l (l.length : Int) i l) (fun i _ => allFrom (rowB l) i l.length) l.length (fun i _ => ∀ j, j < i → rowB l j = true) ?_ ?_
  · intro _ _
    rw [allFrom_end]
    exact ev_step (Ev.now _) (fun k => by simp only [impl_IsPoset.l0]; rw [if_neg (by omega)])
  · intro i _ hi hp ih
    have hm := mask_sub (i := i) (by omega)
    have c1 : (i : Int) < (l.length : Int) := by omega
    have c2 : 0 ≤ (i : Int) := by omega
    rw [allFrom_step _ hi]
    by_cases hb : 0 ≤ l.getD i 0 ∧ l.getD i 0 ≤ ((2 ^ i - 1 : Nat) : Int)
    · have h1 := Nat.one_le_two_pow (n := i)
      obtain ⟨x, hx⟩ : ∃ x : Nat, l.getD i 0 = (x : Int) := ⟨(l.getD i 0).toNat, by omega⟩
      have hxi : x < 2 ^ i := by omega
      have hr : rowB l i = allFrom (cellB l i) 0 i := by unfold rowB; rw [decide_eq_true hb, Bool.true_and]
      have hsub := cell_sub l (by omega) hx hxi
      have hgo := IsPoset_l1 l i hn hi hp hxi (allFrom (rowB l) (i + 1) l.length) (fun hall => ih () (fun j hj => by
        rcases Nat.lt_or_ge j i with h | h
        · exact hp j h
        · rw [show j = i by omega, hr, ← hsub]
          exact List.all_eq_true.2 hall)) 0 () (by omega) (fun _ h => absurd h (by simp))
      rw [List.drop_zero, hsub] at hgo
      rw [hr]
      refine ev_stepb (F := fun k t => impl_IsPoset.l1 k (x : Int) l (l.length : Int) (i : Int) t (t.length : Int) 0 l) (items_ev (p63 hxi (by omega))) hgo (fun k => ?_)
      simp only [impl_IsPoset.l0]
      rw [if_pos c1, if_pos c2, if_pos c1, rd_nat, hm, within_is, decide_eq_true hb, hx, Option.bind_some, if_pos rfl]
    · have hr : rowB l i = false := by unfold rowB; rw [decide_eq_false hb, Bool.false_and]
      rw [hr, Bool.false_and]
      exact ev_step (Ev.now _) (fun k => by simp only [impl_IsPoset.l0]; rw [if_pos c1, if_pos c2, if_pos c1, rd_nat, hm, within_is, decide_eq_false hb, Option.bind_some, if_neg (by decide)])
theorem IsPoset_ev (l : List Int) : Ev (fun k => impl_IsPoset.f k l) (goodB l) := by
  unfold impl_IsPoset.f impl_Poset_n.f goodB
  by_cases h : 1 ≤ (l.length : Int) ∧ (l.length : Int) ≤ 10
  · rw [decide_eq_true h, Bool.true_and]
    exact ev_as (IsPoset_l0 l (by omega) 0 () (by omega) (fun _ h => absurd h (by omega))) (fun k => by rw [Option.bind_some, within_is, decide_eq_true h, Option.bind_some, if_pos rfl]; rfl)
  · rw [decide_eq_false h, Bool.false_and]
    exact ev_as (Ev.now _) (fun k => by rw [Option.bind_some, within_is, decide_eq_false h, Option.bind_some, if_neg (by decide)])

/-! ### a good poset as natural numbers -/
structure Good (l : List Int) (P : List Nat) : Prop where
  eq : l = cast P
  n1 : 1 ≤ P.length
  n10 : P.length ≤ 10
  lt : ∀ i, i < P.length → P.getD i 0 < 2 ^ i
  tr : ∀ i, i < P.length → ∀ j, (P.getD i 0).testBit j = true → sd (P.getD j 0) (P.getD i 0) = 0
theorem good_of {l : List Int} (h : goodB l = true) : ∃ P, Good l P := by
  unfold goodB at h
  rw [Bool.and_eq_true, decide_eq_true_eq, allFrom_iff] at h
  obtain ⟨hl, hr⟩ := h
  refine ⟨l.map Int.toNat, ?_, by simp; omega, by simp; omega, ?_, ?_⟩
  · unfold cast
    rw [List.map_map]
    apply List.ext_getElem
    · simp
    · intro i h1 h2
      obtain ⟨x, hx, _⟩ := rowB_bound (hr i (by omega) h1)
      rw [List.getD_eq_getElem?_getD, List.getElem?_eq_getElem h1, Option.getD_some] at hx
      simp [hx]
  · intro i hi
    rw [List.length_map] at hi
    obtain ⟨x, hx, hxi⟩ := rowB_bound (hr i (by omega) hi)
    have : (l.map Int.toNat).getD i 0 = x := by
      rw [List.getD_eq_getElem?_getD, List.getElem?_map]
      rw [List.getD_eq_getElem?_getD] at hx
      rw [List.getElem?_eq_getElem hi] at hx ⊢
      simp at hx ⊢
      omega
    rw [this]; exact hxi
  · intro i hi j hj
    rw [List.length_map] at hi
    have hD : ∀ e, (l.map Int.toNat).getD e 0 = (l.getD e 0).toNat := fun e => by
      simp only [List.getD_eq_getElem?_getD, List.getElem?_map]
      cases l[e]? <;> simp
    rw [hD] at hj ⊢
    rw [hD]
    have h2 := hr i (by omega) hi
    obtain ⟨x, hx, hxi⟩ := rowB_bound h2
    unfold rowB at h2
    rw [Bool.and_eq_true, allFrom_iff] at h2
    have hji : j < i := by rw [hx, Int.toNat_natCast] at hj; exact bit_lt hxi hj
    have h3 := h2.2 j (by omega) hji
    unfold cellB at h3
    rw [hj] at h3
    simpa using h3
theorem Good.length {l : List Int} {P : List Nat} (h : Good l P) : (l.length : Int) = (P.length : Int) := by rw [h.eq]; simp
theorem Good.lt63 {l : List Int} {P : List Nat} (h : Good l P) (i : Nat) : P.getD i 0 < 2 ^ 63 := by
  rcases Nat.lt_or_ge i P.length with h1 | h1
  · exact p63 (h.lt i h1) (by have := h.n10; omega)
  · rw [List.getD_eq_getElem?_getD, List.getElem?_eq_none h1]; decide
theorem Good.ltn {l : List Int} {P : List Nat} (h : Good l P) (i : Nat) : P.getD i 0 < 2 ^ P.length := by
  rcases Nat.lt_or_ge i P.length with h1 | h1
  · exact Nat.lt_of_lt_of_le (h.lt i h1) (two_pow_le (by omega))
  · rw [List.getD_eq_getElem?_getD, List.getElem?_eq_none h1]; exact Nat.two_pow_pos _
end Go.Proofs.Ytkikpkfambagnaa.B

/-! ### Mfrom -/
/- The poset of some relations: both ways to gather it end alike. Plain. -/
namespace Go.Proofs.Ytkikpkfambagnaa.B
open Go.RowKit Go.Proofs.Ytkikpkfambagnaa.M Go.Proofs.YtkikpkfambagnaaW.PrintWords Go.Proofs.YtkikpkfambagnaaW.PrintLast Go.Proofs.YtkikpkfambagnaaW.PrintMore
attribute [local irreducible] Go.bits shl shr sd
def pj (o : List Int) : Nat := (rd o 0).toNat
def pi' (o : List Int) : Nat := (rd o 1).toNat
theorem getD_set (st : List Nat) (i x v : Nat) (hi : i < st.length) : (st.set i v).getD x 0 = if x = i then v else st.getD x 0 := by
  rw [List.getD_eq_getElem?_getD, List.getElem?_set, List.getD_eq_getElem?_getD]
  by_cases h : i = x
  · subst h
    rw [if_pos rfl, if_pos hi, if_pos rfl, Option.getD_some]
  · rw [if_neg h, if_neg (fun e => h e.symm)]
/-- A list that agrees with another one but at one place. -/
def Agr (i : Nat) (st st0 : List Nat) : Prop := st.length = st0.length ∧ ∀ x, x ≠ i → st.getD x 0 = st0.getD x 0
theorem fold_or {α : Type} (i : Nat) (st0 : List Nat) (hi : i < st0.length) (act : List Nat → α → List Nat) (p : α → Bool) (val : α → Nat) : ∀ (Z : List α) (st : List Nat), Agr i st st0 →
    (∀ z ∈ Z, ∀ st', Agr i st' st0 → act st' z = if p z = true then st'.set i (st'.getD i 0 ||| val z) else st') →
    Agr i (Z.foldl act st) st0 ∧ ∀ b, ((Z.foldl act st).getD i 0).testBit b = true ↔ (st.getD i 0).testBit b = true ∨ ∃ z ∈ Z, p z = true ∧ (val z).testBit b = true
  | [], st, h, _ => ⟨h, fun b => by simp⟩
  | z :: Z, st, h, ha => by
    rw [List.foldl_cons]
    have h1 := ha z List.mem_cons_self st h
    have hA : Agr i (act st z) st0 := by
      rw [h1]
      split
      · refine ⟨by rw [List.length_set]; exact h.1, fun x hx => ?_⟩
        rw [getD_set _ _ _ _ (by rw [h.1]; exact hi), if_neg hx]
        exact h.2 x hx
      · exact h
    obtain ⟨k1, k2⟩ := fold_or i st0 hi act p val Z (act st z) hA (fun z hz => ha z (List.mem_cons_of_mem _ hz))
    refine ⟨k1, fun b => ?_⟩
    rw [k2 b, h1]
    cases hp : p z with
    | false =>
      rw [if_neg (by decide)]
      constructor
      · rintro (h | ⟨y, hy, h⟩)
        · exact .inl h
        · exact .inr ⟨y, List.mem_cons_of_mem _ hy, h⟩
      · rintro (h | ⟨y, hy, h⟩)
        · exact .inl h
        · rcases List.mem_cons.1 hy with rfl | hy
          · rw [hp] at h; cases h.1
          · exact .inr ⟨y, hy, h⟩
    | true =>
      rw [if_pos rfl, getD_set _ _ _ _ (by rw [h.1]; exact hi), if_pos rfl, Nat.testBit_or, Bool.or_eq_true]
      constructor
      · rintro ((h | h) | ⟨y, hy, h⟩)
        · exact .inl h
        · exact .inr ⟨z, List.mem_cons_self, hp, h⟩
        · exact .inr ⟨y, List.mem_cons_of_mem _ hy, h⟩
      · rintro (h | ⟨y, hy, h⟩)
        · exact .inl (.inl h)
        · rcases List.mem_cons.1 hy with rfl | hy
          · exact .inl (.inr h.2)
          · exact .inr ⟨y, hy, h⟩
/-- A pair of a poset of n elements. -/
def okP (n : Int) (o : List Int) : Bool := decide (o.length = 2) && decide (0 ≤ rd o 0 ∧ rd o 0 < rd o 1 ∧ rd o 1 ≤ n - 1)
theorem okP_nat {n : Nat} {o : List Int} (h : okP (n : Int) o = true) : o.length = 2 ∧ rd o 0 = (pj o : Int) ∧ rd o 1 = (pi' o : Int) ∧ pj o < pi' o ∧ pi' o < n := by
  unfold okP at h
  rw [Bool.and_eq_true, decide_eq_true_eq, decide_eq_true_eq] at h
  unfold pj pi'
  omega
def Bnd (n : Nat) (st : List Nat) : Prop := st.length = n ∧ ∀ x, st.getD x 0 < 2 ^ x
theorem bnd_set {n : Nat} {st : List Nat} (h : Bnd n st) {i v : Nat} (hi : i < n) (hv : v < 2 ^ i) : Bnd n (st.set i v) := by
  refine ⟨by rw [List.length_set]; exact h.1, fun x => ?_⟩
  rw [getD_set _ _ _ _ (by rw [h.1]; exact hi)]
  split
  · rename_i e; rw [e]; exact hv
  · exact h.2 x
theorem bnd_zero (n : Nat) : Bnd n (List.replicate n 0) := by
  refine ⟨List.length_replicate, fun x => ?_⟩
  rw [List.getD_eq_getElem?_getD, List.getElem?_replicate]
  split <;> exact Nat.two_pow_pos _
def stepS (i : Nat) (st : List Nat) (o : List Int) : List Nat := if pi' o = i then st.set i (st.getD i 0 ||| (2 ^ pj o ||| st.getD (pj o) 0)) else st
def specR (R : List (List Int)) (n : Nat) : List Nat := foldFrom (fun st i => R.foldl (stepS i) st) 0 n (List.replicate n 0)
def stepD (st : List Nat) (o : List Int) : List Nat := st.set (pi' o) (st.getD (pi' o) 0 ||| 2 ^ pj o)
def stepI (i : Nat) (st : List Nat) (j : Nat) : List Nat := st.set i (st.getD i 0 ||| st.getD j 0)
def implR (n : Nat) (D : List Nat) : List Nat := foldFrom (fun st i => (items (st.getD i 0)).foldl (stepI i) st) 0 n D
theorem lt_pow {a b : Nat} (h : a < b) : (2 : Nat) ^ a < 2 ^ b := Nat.pow_lt_pow_right (by decide) h
theorem lt_pow_le {x a b : Nat} (h : x < 2 ^ a) (hab : a ≤ b) : x < 2 ^ b := Nat.lt_of_lt_of_le h (two_pow_le hab)
theorem stepS_bnd {n i : Nat} {st : List Nat} (h : Bnd n st) (hi : i < n) {o : List Int} (ho : okP (n : Int) o = true) : Bnd n (stepS i st o) := by
  obtain ⟨_, _, _, h1, h2⟩ := okP_nat ho
  unfold stepS
  split
  · rename_i e
    exact bnd_set h hi (Nat.or_lt_two_pow (h.2 i) (Nat.or_lt_two_pow (lt_pow (by omega)) (lt_pow_le (h.2 _) (by omega))))
  · exact h
theorem stepD_bnd {n : Nat} {st : List Nat} (h : Bnd n st) {o : List Int} (ho : okP (n : Int) o = true) : Bnd n (stepD st o) := by
  obtain ⟨_, _, _, h1, h2⟩ := okP_nat ho
  exact bnd_set h h2 (Nat.or_lt_two_pow (h.2 _) (lt_pow h1))
theorem stepI_bnd {n i j : Nat} {st : List Nat} (h : Bnd n st) (hi : i < n) (hj : j < i) : Bnd n (stepI i st j) :=
  bnd_set h hi (Nat.or_lt_two_pow (h.2 i) (lt_pow_le (h.2 j) (by omega)))
theorem foldS_bnd {n i : Nat} (hi : i < n) : ∀ (R : List (List Int)), (∀ o ∈ R, okP (n : Int) o = true) → ∀ st, Bnd n st → Bnd n (R.foldl (stepS i) st)
  | [], _, _, h => h
  | o :: R, hR, _, h => foldS_bnd hi R (fun o ho => hR o (List.mem_cons_of_mem _ ho)) _ (stepS_bnd h hi (hR o List.mem_cons_self))
theorem foldD_bnd {n : Nat} : ∀ (R : List (List Int)), (∀ o ∈ R, okP (n : Int) o = true) → ∀ st, Bnd n st → Bnd n (R.foldl stepD st)
  | [], _, _, h => h
  | o :: R, hR, _, h => foldD_bnd R (fun o ho => hR o (List.mem_cons_of_mem _ ho)) _ (stepD_bnd h (hR o List.mem_cons_self))
theorem foldI_bnd {n i : Nat} (hi : i < n) : ∀ (J : List Nat), (∀ j ∈ J, j < i) → ∀ st, Bnd n st → Bnd n (J.foldl (stepI i) st)
  | [], _, _, h => h
  | j :: J, hJ, _, h => foldI_bnd hi J (fun j hj => hJ j (List.mem_cons_of_mem _ hj)) _ (stepI_bnd h hi (hJ j List.mem_cons_self))
theorem items_lt {s i : Nat} (hs : s < 2 ^ i) : ∀ j ∈ items s, j < i := fun _ hj => bit_lt hs (mem_items.1 hj).2
/-- Row x is told by the pairs and by the rows before it. -/
def Told (R : List (List Int)) (st : List Nat) (x : Nat) : Prop := ∀ b, (st.getD x 0).testBit b = true ↔ ∃ o ∈ R, pi' o = x ∧ (b = pj o ∨ (st.getD (pj o) 0).testBit b = true)
theorem told_unique {R : List (List Int)} {n : Nat} (hR : ∀ o ∈ R, okP (n : Int) o = true) {s t : List Nat} (hs : s.length = n) (ht : t.length = n) (h1 : ∀ x, x < n → Told R s x) (h2 : ∀ x, x < n → Told R t x) : s = t := by
  have key : ∀ m x, x < m → x < n → s.getD x 0 = t.getD x 0 := by
    intro m
    induction m with
    | zero => intro x hx; omega
    | succ m ih =>
      intro x hx hn
      apply Nat.eq_of_testBit_eq
      intro b
      rw [Bool.eq_iff_iff, h1 x hn b, h2 x hn b]
      constructor
      · rintro ⟨o, ho, he, hb⟩
        have := okP_nat (hR o ho)
        exact ⟨o, ho, he, by rw [← ih (pj o) (by omega) (by omega)]; exact hb⟩
      · rintro ⟨o, ho, he, hb⟩
        have := okP_nat (hR o ho)
        exact ⟨o, ho, he, by rw [ih (pj o) (by omega) (by omega)]; exact hb⟩
  apply List.ext_getElem (by omega)
  intro x hx hx'
  have := key (x + 1) x (by omega) (by omega)
  simpa [List.getD_eq_getElem?_getD, List.getElem?_eq_getElem hx, List.getElem?_eq_getElem hx'] using this
theorem told_keep {R : List (List Int)} {n : Nat} (hR : ∀ o ∈ R, okP (n : Int) o = true) {s t : List Nat} {i x : Nat} (hxi : x < i) (h : ∀ y, y ≠ i → t.getD y 0 = s.getD y 0) (hT : Told R s x) : Told R t x := by
  intro b
  rw [h x (by omega), hT b]
  constructor
  · rintro ⟨o, ho, he, hb⟩
    have := okP_nat (hR o ho)
    exact ⟨o, ho, he, by rw [h (pj o) (by omega)]; exact hb⟩
  · rintro ⟨o, ho, he, hb⟩
    have := okP_nat (hR o ho)
    exact ⟨o, ho, he, by rw [h (pj o) (by omega)] at hb; exact hb⟩
theorem specR_told {R : List (List Int)} {n : Nat} (hR : ∀ o ∈ R, okP (n : Int) o = true) : (specR R n).length = n ∧ ∀ x, x < n → Told R (specR R n) x := by
  have H := foldFrom_inv (fun st i => R.foldl (stepS i) st) (fun i st => st.length = n ∧ (∀ x, x < i → Told R st x) ∧ ∀ x, i ≤ x → st.getD x 0 = 0) n (fun i st hi hst => by
    obtain ⟨h1, h2, h3⟩ := hst
    obtain ⟨⟨k1, k2⟩, k3⟩ := fold_or i st (by omega) (stepS i) (fun o => decide (pi' o = i)) (fun o => 2 ^ pj o ||| st.getD (pj o) 0) R st ⟨rfl, fun _ _ => rfl⟩ (fun o ho st' hst' => by
      have := okP_nat (hR o ho)
      unfold stepS
      by_cases he : pi' o = i
      · rw [if_pos he, if_pos (decide_eq_true he), hst'.2 (pj o) (by omega)]
      · rw [if_neg he, decide_eq_false he, if_neg (by decide)])
    refine ⟨by rw [k1]; exact h1, fun x hx => ?_, fun x hx => ?_⟩
    · by_cases hxi : x = i
      · subst hxi
        intro b
        rw [k3 b, h3 x (Nat.le_refl _), Nat.zero_testBit]
        constructor
        · rintro (h | ⟨o, ho, he, hb⟩)
          · cases h
          · have hok := okP_nat (hR o ho)
            rw [decide_eq_true_eq] at he
            rw [Nat.testBit_or, Bool.or_eq_true, Nat.testBit_two_pow, decide_eq_true_eq] at hb
            exact ⟨o, ho, he, hb.imp (fun h => h.symm) (fun h => by rw [k2 (pj o) (by omega)]; exact h)⟩
        · rintro ⟨o, ho, he, hb⟩
          have hok := okP_nat (hR o ho)
          refine .inr ⟨o, ho, decide_eq_true he, ?_⟩
          rw [Nat.testBit_or, Bool.or_eq_true, Nat.testBit_two_pow, decide_eq_true_eq]
          exact hb.imp (fun h => h.symm) (fun h => by rw [k2 (pj o) (by omega)] at h; exact h)
      · exact told_keep hR (by omega) k2 (h2 x (by omega))
    · rw [k2 x (by omega)]
      exact h3 x (by omega)) 0 (List.replicate n 0) (Nat.zero_le _) ⟨List.length_replicate, fun x hx => by omega, fun x _ => by
      rw [List.getD_eq_getElem?_getD, List.getElem?_replicate]
      split <;> rfl⟩
  exact ⟨H.1, H.2.1⟩
theorem foldD_bit {n : Nat} : ∀ (R : List (List Int)), (∀ o ∈ R, okP (n : Int) o = true) → ∀ (st : List Nat), st.length = n → ∀ x b, ((R.foldl stepD st).getD x 0).testBit b = true ↔ (st.getD x 0).testBit b = true ∨ ∃ o ∈ R, pi' o = x ∧ b = pj o
  | [], _, st, _, x, b => by simp
  | o :: R, hR, st, hl, x, b => by
    have hok := okP_nat (hR o List.mem_cons_self)
    rw [List.foldl_cons, foldD_bit R (fun o ho => hR o (List.mem_cons_of_mem _ ho)) (stepD st o) (by unfold stepD; rw [List.length_set]; exact hl) x b]
    unfold stepD
    rw [getD_set _ _ _ _ (by omega)]
    constructor
    · rintro (h | ⟨y, hy, h⟩)
      · split at h
        · rename_i e
          rw [Nat.testBit_or, Bool.or_eq_true, Nat.testBit_two_pow, decide_eq_true_eq] at h
          rcases h with h | h
          · exact .inl (by rw [e]; exact h)
          · exact .inr ⟨o, List.mem_cons_self, e.symm, h.symm⟩
        · exact .inl h
      · exact .inr ⟨y, List.mem_cons_of_mem _ hy, h⟩
    · rintro (h | ⟨y, hy, he, hb⟩)
      · refine .inl ?_
        split
        · rename_i e
          rw [Nat.testBit_or, Bool.or_eq_true]
          exact .inl (by rw [← e]; exact h)
        · exact h
      · rcases List.mem_cons.1 hy with rfl | hy
        · refine .inl ?_
          rw [if_pos he.symm, Nat.testBit_or, Bool.or_eq_true, Nat.testBit_two_pow, decide_eq_true_eq]
          exact .inr hb.symm
        · exact .inr ⟨y, hy, he, hb⟩
theorem implR_told {R : List (List Int)} {n : Nat} (hn : n ≤ 10) (hR : ∀ o ∈ R, okP (n : Int) o = true) : (implR n (R.foldl stepD (List.replicate n 0))).length = n ∧ ∀ x, x < n → Told R (implR n (R.foldl stepD (List.replicate n 0))) x := by
  have hD := foldD_bnd R hR _ (bnd_zero n)
  have hbit : ∀ x b, ((R.foldl stepD (List.replicate n 0)).getD x 0).testBit b = true ↔ ∃ o ∈ R, pi' o = x ∧ b = pj o := fun x b => by
    rw [foldD_bit R hR _ List.length_replicate x b]
    constructor
    · rintro (h | h)
      · rw [List.getD_eq_getElem?_getD, List.getElem?_replicate] at h
        split at h <;> simp at h
      · exact h
    · exact .inr
  obtain ⟨D, hDe⟩ : ∃ D, R.foldl stepD (List.replicate n 0) = D := ⟨_, rfl⟩
  rw [hDe] at hD hbit ⊢
  have H := foldFrom_inv (fun st i => (items (st.getD i 0)).foldl (stepI i) st) (fun i st => st.length = n ∧ (∀ x, x < i → Told R st x) ∧ ∀ x, i ≤ x → st.getD x 0 = D.getD x 0) n (fun i st hi hst => by
    obtain ⟨h1, h2, h3⟩ := hst
    have hDi : D.getD i 0 < 2 ^ i := hD.2 i
    have h3i := h3 i (Nat.le_refl _)
    have hits : ∀ j ∈ items (st.getD i 0), j < i := by rw [h3i]; exact items_lt hDi
    obtain ⟨⟨k1, k2⟩, k3⟩ := fold_or i st (by omega) (stepI i) (fun _ => true) (fun j => st.getD j 0) (items (st.getD i 0)) st ⟨rfl, fun _ _ => rfl⟩ (fun j hj st' hst' => by
      have := hits j hj
      unfold stepI
      rw [if_pos rfl, hst'.2 j (by omega)])
    obtain ⟨F, hF⟩ : ∃ F, (items (st.getD i 0)).foldl (stepI i) st = F := ⟨_, rfl⟩
    rw [hF] at k1 k2 k3
    show ((items (st.getD i 0)).foldl (stepI i) st).length = n ∧ (∀ x, x < i + 1 → Told R ((items (st.getD i 0)).foldl (stepI i) st) x) ∧ ∀ x, i + 1 ≤ x → ((items (st.getD i 0)).foldl (stepI i) st).getD x 0 = D.getD x 0
    rw [hF]
    clear hF
    refine ⟨by rw [k1]; exact h1, fun x hx => ?_, fun x hx => ?_⟩
    · by_cases hxi : x = i
      · subst hxi
        intro b
        rw [k3 b, h3i, hbit x b]
        constructor
        · rintro (⟨o, ho, he, hb⟩ | ⟨j, hj, _, hb⟩)
          · exact ⟨o, ho, he, .inl hb⟩
          · have hj2 := (mem_items.1 hj).2
            rw [hbit x j] at hj2
            obtain ⟨o, ho, he, rfl⟩ := hj2
            have hok := okP_nat (hR o ho)
            exact ⟨o, ho, he, .inr (by rw [k2 (pj o) (by omega)]; exact hb)⟩
        · rintro ⟨o, ho, he, hb⟩
          have hok := okP_nat (hR o ho)
          rcases hb with hb | hb
          · exact .inl ⟨o, ho, he, hb⟩
          · refine .inr ⟨pj o, mem_items.2 ⟨by omega, ?_⟩, rfl, by rw [k2 (pj o) (by omega)] at hb; exact hb⟩
            rw [hbit x (pj o)]
            exact ⟨o, ho, he, rfl⟩
      · exact told_keep hR (by omega) k2 (h2 x (by omega))
    · rw [k2 x (by omega)]
      exact h3 x (by omega)) 0 D (Nat.zero_le _) ⟨hD.1, fun x hx => by omega, fun _ _ => rfl⟩
  exact ⟨H.1, H.2.1⟩
theorem both_from {R : List (List Int)} {n : Nat} (hn : n ≤ 10) (hR : ∀ o ∈ R, okP (n : Int) o = true) : implR n (R.foldl stepD (List.replicate n 0)) = specR R n :=
  told_unique hR (implR_told hn hR).1 (specR_told hR).1 (implR_told hn hR).2 (specR_told hR).2
end Go.Proofs.Ytkikpkfambagnaa.B

/-! ### Mrow -/
/- Toggles and rowmotion as plain laws on sets told by their bits. -/
namespace Go.Proofs.Ytkikpkfambagnaa.B
open Go.Proofs.Ytkikpkfambagnaa.M
/-- A set toggled at an element. -/
def tog (P : List Nat) (s e : Nat) : Nat := if idl P (s ^^^ 2 ^ e) then s ^^^ 2 ^ e else s
theorem tog_lt {P : List Nat} {s e : Nat} (hs : s < 2 ^ P.length) (he : e < P.length) : tog P s e < 2 ^ P.length := by
  unfold tog
  split
  · exact Nat.xor_lt_two_pow hs (Nat.pow_lt_pow_right (by decide) he)
  · exact hs
theorem xor_bit (s e j : Nat) : (s ^^^ 2 ^ e).testBit j = if e = j then !s.testBit j else s.testBit j := by
  rw [Nat.testBit_xor, Nat.testBit_two_pow]
  by_cases h : e = j
  · simp [h]
  · simp [h]
theorem tog_idl {P : List Nat} {s e : Nat} (hs : idl P s = true) : idl P (tog P s e) = true := by
  unfold tog
  split
  · assumption
  · exact hs
/-- The ideal behind rowmotion. -/
def rw_ (P : List Nat) (s : Nat) : Nat := dn P (bm P (sd (2 ^ P.length - 1) s))
/-- The ideal whose rowmotion it is: what lies above nothing that is greatest in it. -/
def bk (P : List Nat) (s : Nat) : Nat := foldFrom (fun o i => if (tp P s).testBit i then o else (if P.getD i 0 &&& tp P s = 0 then o ||| 2 ^ i else o)) 0 P.length 0
theorem bk_bit (P : List Nat) (s j : Nat) : (bk P s).testBit j = true ↔ j < P.length ∧ (tp P s).testBit j = false ∧ ∀ i, (P.getD j 0).testBit i = true → (tp P s).testBit i = false := by
  have H := foldFrom_inv (fun o i => if (tp P s).testBit i then o else (if P.getD i 0 &&& tp P s = 0 then o ||| 2 ^ i else o)) (fun m o => o.testBit j = true ↔ j < m ∧ (tp P s).testBit j = false ∧ P.getD j 0 &&& tp P s = 0) P.length ?_ 0 0 (by omega) ?_
  · rw [← and_eq_zero]; exact H
  · intro i o hi hQ
    cases hb : (tp P s).testBit i with
    | false =>
      by_cases h0 : P.getD i 0 &&& tp P s = 0
      · simp only [h0, Bool.false_eq_true, if_true, if_false]
        rw [Nat.testBit_or, Bool.or_eq_true, hQ, Nat.testBit_two_pow, decide_eq_true_eq]
        constructor
        · rintro (⟨h1, h2⟩ | rfl)
          · exact ⟨by omega, h2⟩
          · exact ⟨by omega, hb, h0⟩
        · rintro ⟨h1, h2⟩
          rcases Nat.lt_or_ge j i with h4 | h4
          · exact .inl ⟨h4, h2⟩
          · exact .inr (by omega)
      · simp only [h0, Bool.false_eq_true, if_false]
        rw [hQ]
        constructor
        · rintro ⟨h1, h2⟩; exact ⟨by omega, h2⟩
        · rintro ⟨h1, h2, h3⟩
          rcases Nat.lt_or_ge j i with h4 | h4
          · exact ⟨h4, h2, h3⟩
          · rw [show j = i by omega] at h3; exact absurd h3 h0
    | true =>
      simp only [if_true]
      rw [hQ]
      constructor
      · rintro ⟨h1, h2⟩; exact ⟨by omega, h2⟩
      · rintro ⟨h1, h2, h3⟩
        rcases Nat.lt_or_ge j i with h4 | h4
        · exact ⟨h4, h2, h3⟩
        · rw [show j = i by omega, hb] at h2; cases h2
  · simp
theorem bk_lt (P : List Nat) (s : Nat) : bk P s < 2 ^ P.length := lt_of_bits (fun j hj => ((bk_bit P s j).1 hj).1)
section
variable {l : List Int} {P : List Nat} (hP : Good l P)
include hP
theorem below_lt {i j : Nat} (h : (P.getD i 0).testBit j = true) : j < i ∧ i < P.length := by
  rcases Nat.lt_or_ge i P.length with h1 | h1
  · exact ⟨bit_lt (hP.lt i h1) h, h1⟩
  · rw [List.getD_eq_getElem?_getD, List.getElem?_eq_none h1] at h
    simp at h
theorem below_trans {i j k : Nat} (h : (P.getD i 0).testBit j = true) (h2 : (P.getD j 0).testBit k = true) : (P.getD i 0).testBit k = true := by
  have := hP.tr i (below_lt hP h).2 j h
  exact sd_eq_zero.1 this k h2
theorem idl_closed {s : Nat} (h : idl P s = true) {i j : Nat} (hs : s.testBit i = true) (hj : (P.getD i 0).testBit j = true) : s.testBit j = true :=
  (idl_iff P s).1 h i (below_lt hP hj).2 hs j hj
theorem dn_idl (s : Nat) : idl P (dn P s) = true := by
  rw [idl_iff]
  intro i hi hs j hj
  rw [dn_bit] at hs ⊢
  rcases hs with h | ⟨i', h1, h2, h3⟩
  · exact .inr ⟨i, hi, h, hj⟩
  · exact .inr ⟨i', h1, h2, below_trans hP h3 hj⟩
theorem dn_lt {s : Nat} (hs : s < 2 ^ P.length) : dn P s < 2 ^ P.length := by
  apply lt_of_bits
  intro j hj
  rw [dn_bit] at hj
  rcases hj with h | ⟨i, h1, h2, h3⟩
  · exact bit_lt hs h
  · have := below_lt hP h3; omega
omit hP in
theorem tp_lt {s : Nat} (hs : s < 2 ^ P.length) : tp P s < 2 ^ P.length := lt_of_bits (fun j hj => bit_lt hs ((tp_bit P s j).1 hj).1)
omit hP in
theorem bm_lt (s : Nat) : bm P s < 2 ^ P.length := lt_of_bits (fun j hj => ((bm_bit P s j).1 hj).1)
theorem rw_lt (s : Nat) : rw_ P s < 2 ^ P.length := dn_lt hP (bm_lt _)
theorem rw_idl (s : Nat) : idl P (rw_ P s) = true := dn_idl hP _
theorem bk_idl (s : Nat) : idl P (bk P s) = true := by
  rw [idl_iff]
  intro i hi hs j hj
  rw [bk_bit] at hs ⊢
  exact ⟨by have := below_lt hP hj; omega, hs.2.2 j hj, fun i' hi' => hs.2.2 i' (below_trans hP hj hi')⟩
omit hP in
theorem all_bit {n j : Nat} {s : Nat} : (sd (2 ^ n - 1) s).testBit j = true ↔ j < n ∧ s.testBit j = false := by
  rw [sd_bit, Nat.testBit_two_pow_sub_one, Bool.and_eq_true, decide_eq_true_eq, Bool.not_eq_true']
/-- Each element outside of an ideal lies over a least one, or is one. -/
theorem least_below {s : Nat} {j : Nat} (hj : j < P.length) (hs : s.testBit j = false) : ∃ i, (bm P (sd (2 ^ P.length - 1) s)).testBit i = true ∧ (i = j ∨ (P.getD j 0).testBit i = true) := by
  induction j using Nat.strongRecOn with
  | _ j ih =>
    by_cases h : ∃ i, (P.getD j 0).testBit i = true ∧ s.testBit i = false
    · obtain ⟨i, h1, h2⟩ := h
      have hl := below_lt hP h1
      obtain ⟨i', h3, h4⟩ := ih i hl.1 (by omega) h2
      refine ⟨i', h3, .inr ?_⟩
      rcases h4 with rfl | h4
      · exact h1
      · exact below_trans hP h1 h4
    · refine ⟨j, ?_, .inl rfl⟩
      rw [bm_bit, all_bit, and_eq_zero]
      refine ⟨hj, ⟨hj, hs⟩, fun i hi => ?_⟩
      cases hc : (sd (2 ^ P.length - 1) s).testBit i with
      | false => rfl
      | true => exact absurd ⟨i, hi, (all_bit.1 hc).2⟩ h
/-- Each element of an ideal lies below a greatest one, or is one. -/
theorem greatest_above {s : Nat} (hsl : s < 2 ^ P.length) {j : Nat} (hs : s.testBit j = true) : ∃ i, (tp P s).testBit i = true ∧ (i = j ∨ (P.getD i 0).testBit j = true) := by
  obtain ⟨d, hd⟩ : ∃ d, P.length - j = d := ⟨_, rfl⟩
  induction d using Nat.strongRecOn generalizing j with
  | _ d ih =>
    have hjn := bit_lt hsl hs
    by_cases h : ∃ i, i < P.length ∧ s.testBit i = true ∧ (P.getD i 0).testBit j = true
    · obtain ⟨i, h1, h2, h3⟩ := h
      have hl := below_lt hP h3
      obtain ⟨i', h4, h5⟩ := ih (P.length - i) (by omega) h2 rfl
      refine ⟨i', h4, .inr ?_⟩
      rcases h5 with rfl | h5
      · exact h3
      · exact below_trans hP h5 h3
    · refine ⟨j, ?_, .inl rfl⟩
      rw [tp_bit]
      refine ⟨hs, fun i hi hsi => ?_⟩
      cases hc : (P.getD i 0).testBit j with
      | false => rfl
      | true => exact absurd ⟨i, hi, hsi, hc⟩ h
/-- The greatest elements of the ideal behind rowmotion are the least ones outside. -/
theorem tp_rw {s : Nat} (j : Nat) : (tp P (rw_ P s)).testBit j = (bm P (sd (2 ^ P.length - 1) s)).testBit j := by
  rw [Bool.eq_iff_iff, tp_bit]
  unfold rw_
  constructor
  · rintro ⟨h1, h2⟩
    rw [dn_bit] at h1
    rcases h1 with h1 | ⟨i, h3, h4, h5⟩
    · exact h1
    · have := h2 i h3 (by rw [dn_bit]; exact .inl h4)
      rw [h5] at this; cases this
  · intro h
    refine ⟨by rw [dn_bit]; exact .inl h, fun i hi hs => ?_⟩
    cases hc : (P.getD i 0).testBit j with
    | false => rfl
    | true =>
      exfalso
      have hb := (bm_bit _ _ _).1 h
      have key : ∀ i', (bm P (sd (2 ^ P.length - 1) s)).testBit i' = true → (P.getD i' 0).testBit j = true → False := fun i' h1 h2 => by
        have h3 := (bm_bit _ _ _).1 h1
        have := and_eq_zero.1 h3.2.2 j h2
        rw [hb.2.1] at this; cases this
      rw [dn_bit] at hs
      rcases hs with h1 | ⟨i', h3, h4, h5⟩
      · exact key i h1 hc
      · exact key i' h4 (below_trans hP h5 hc)
/-- Rowmotion undone. -/
theorem bk_rw {s : Nat} (hsl : s < 2 ^ P.length) (hs : idl P s = true) : bk P (rw_ P s) = s := by
  apply Nat.eq_of_testBit_eq
  intro j
  rw [Bool.eq_iff_iff, bk_bit]
  constructor
  · rintro ⟨h1, h2, h3⟩
    cases hc : s.testBit j with
    | true => rfl
    | false =>
      obtain ⟨i, h4, h5⟩ := least_below hP h1 hc
      rw [← tp_rw hP] at h4
      rcases h5 with rfl | h5
      · rw [h4] at h2; cases h2
      · rw [h3 i h5] at h4; cases h4
  · intro h
    refine ⟨bit_lt hsl h, ?_, fun i hi => ?_⟩
    · rw [tp_rw hP]
      cases hc : (bm P (sd (2 ^ P.length - 1) s)).testBit j with
      | false => rfl
      | true => have := (all_bit.1 ((bm_bit _ _ _).1 hc).2.1).2; rw [h] at this; cases this
    · rw [tp_rw hP]
      cases hc : (bm P (sd (2 ^ P.length - 1) s)).testBit i with
      | false => rfl
      | true => have := (all_bit.1 ((bm_bit _ _ _).1 hc).2.1).2; rw [idl_closed hP hs h hi] at this; cases this
/-- And the other way. -/
theorem rw_bk {s : Nat} (hsl : s < 2 ^ P.length) (hs : idl P s = true) : rw_ P (bk P s) = s := by
  apply Nat.eq_of_testBit_eq
  intro j
  have hbm : ∀ i, (bm P (sd (2 ^ P.length - 1) (bk P s))).testBit i = true ↔ (tp P s).testBit i = true := by
    intro i
    rw [bm_bit, all_bit, and_eq_zero]
    constructor
    · rintro ⟨h1, ⟨_, h2⟩, h3⟩
      cases hc : (tp P s).testBit i with
      | true => rfl
      | false =>
        exfalso
        have : ¬ ((bk P s).testBit i = true) := by rw [h2]; decide
        rw [bk_bit] at this
        apply this
        refine ⟨h1, hc, fun i' hi' => ?_⟩
        have h4 := h3 i' hi'
        have h5 : (bk P s).testBit i' = true := by
          cases hx : (bk P s).testBit i' with
          | true => rfl
          | false =>
            have : (sd (2 ^ P.length - 1) (bk P s)).testBit i' = true := all_bit.2 ⟨by have := below_lt hP hi'; omega, hx⟩
            rw [h4] at this; cases this
        exact ((bk_bit _ _ _).1 h5).2.1
    · intro h
      have h1 : i < P.length := bit_lt (tp_lt hsl) h
      have hnb : (bk P s).testBit i = false := by
        cases hx : (bk P s).testBit i with
        | false => rfl
        | true => have := ((bk_bit _ _ _).1 hx).2.1; rw [h] at this; cases this
      refine ⟨h1, ⟨h1, hnb⟩, fun i' hi' => ?_⟩
      have hl := below_lt hP hi'
      have htop := (tp_bit _ _ _).1 h
      have hin : (bk P s).testBit i' = true := by
        rw [bk_bit]
        refine ⟨by omega, ?_, fun i2 h2 => ?_⟩
        · cases hx : (tp P s).testBit i' with
          | false => rfl
          | true => have := ((tp_bit _ _ _).1 hx).2 i h1 htop.1; rw [hi'] at this; cases this
        · cases hx : (tp P s).testBit i2 with
          | false => rfl
          | true => have := ((tp_bit _ _ _).1 hx).2 i h1 htop.1; rw [below_trans hP hi' h2] at this; cases this
      rw [sd_bit, hin]; simp
  unfold rw_
  rw [Bool.eq_iff_iff, dn_bit]
  constructor
  · rintro (h | ⟨i, h1, h2, h3⟩)
    · exact ((tp_bit _ _ _).1 ((hbm j).1 h)).1
    · exact idl_closed hP hs ((tp_bit _ _ _).1 ((hbm i).1 h2)).1 h3
  · intro h
    obtain ⟨i, h1, h2⟩ := greatest_above hP hsl h
    rcases h2 with rfl | h2
    · exact .inl ((hbm i).2 h1)
    · exact .inr ⟨i, bit_lt (tp_lt hsl) h1, (hbm i).2 h1, h2⟩
/-- All toggles, from the first element on, are rowmotion back. -/
theorem toggles_bk {s : Nat} (hsl : s < 2 ^ P.length) (hs : idl P s = true) : foldFrom (tog P) 0 P.length s = bk P s := by
  have H := foldFrom_inv (tog P) (fun m o => o < 2 ^ P.length ∧ idl P o = true ∧ ∀ j, o.testBit j = if j < m then (bk P s).testBit j else s.testBit j) P.length ?_ 0 s (by omega) ⟨hsl, hs, fun j => by rw [if_neg (by omega)]⟩
  · obtain ⟨h1, _, h3⟩ := H
    apply Nat.eq_of_testBit_eq
    intro j
    rw [h3]
    split
    · rfl
    · rename_i hj
      rw [Nat.testBit_lt_two_pow (Nat.lt_of_lt_of_le hsl (two_pow_le (by omega))), Nat.testBit_lt_two_pow (Nat.lt_of_lt_of_le (bk_lt P s) (two_pow_le (by omega)))]
  · rintro m o hm ⟨hol, hoi, hob⟩
    refine ⟨tog_lt hol hm, tog_idl hoi, fun j => ?_⟩
    have hom : o.testBit m = s.testBit m := by rw [hob, if_neg (by omega)]
    -- what the toggle asks is just what the answer has
    have key : idl P (o ^^^ 2 ^ m) = true ↔ (bk P s).testBit m = !s.testBit m := by
      cases hsm : s.testBit m with
      | true =>
        rw [hsm] at hom
        rw [idl_iff]
        constructor
        · intro h
          cases hx : (bk P s).testBit m with
          | false => rfl
          | true =>
            exfalso
            have hb := (bk_bit _ _ _).1 hx
            obtain ⟨i, h1, h2⟩ := greatest_above hP hsl hsm
            rcases h2 with rfl | h2
            · rw [hb.2.1] at h1; cases h1
            · have hl := below_lt hP h2
              have h3 := h i hl.2 (by rw [xor_bit, if_neg (by omega), hob, if_neg (by omega)]; exact ((tp_bit _ _ _).1 h1).1) m h2
              rw [xor_bit, if_pos rfl, hom] at h3; cases h3
        · intro h i hi hsi j hj
          simp only [Bool.not_true] at h
          rw [xor_bit] at hsi ⊢
          by_cases hmi : m = i
          · subst hmi; rw [if_pos rfl, hom] at hsi; cases hsi
          · rw [if_neg hmi] at hsi
            have hoj := idl_closed hP hoi hsi hj
            by_cases hmj : m = j
            · subst hmj
              exfalso
              have hl := below_lt hP hj
              have hsi2 : s.testBit i = true := by rw [hob, if_neg (by omega)] at hsi; exact hsi
              have : (bk P s).testBit m = true := by
                rw [bk_bit]
                refine ⟨hm, ?_, fun i' hi' => ?_⟩
                · cases hx : (tp P s).testBit m with
                  | false => rfl
                  | true => have := ((tp_bit _ _ _).1 hx).2 i hi hsi2; rw [hj] at this; cases this
                · cases hx : (tp P s).testBit i' with
                  | false => rfl
                  | true => have := ((tp_bit _ _ _).1 hx).2 i hi hsi2; rw [below_trans hP hj hi'] at this; cases this
              rw [this] at h; cases h
            · rw [if_neg hmj]; exact hoj
      | false =>
        rw [hsm] at hom
        rw [idl_iff]
        have hbelow : ∀ j, (P.getD m 0).testBit j = true → (o.testBit j = (bk P s).testBit j) := fun j hj => by
          have := below_lt hP hj
          rw [hob, if_pos (by omega)]
        constructor
        · intro h
          show (bk P s).testBit m = true
          rw [bk_bit]
          have hin : ∀ j, (P.getD m 0).testBit j = true → (bk P s).testBit j = true := fun j hj => by
            have h2 := h m hm (by rw [xor_bit, if_pos rfl, hom]; rfl) j hj
            have hl := below_lt hP hj
            rw [xor_bit, if_neg (by omega)] at h2
            rw [← hbelow j hj]; exact h2
          refine ⟨hm, ?_, fun i' hi' => ((bk_bit _ _ _).1 (hin i' hi')).2.1⟩
          cases hx : (tp P s).testBit m with
          | false => rfl
          | true => have := ((tp_bit _ _ _).1 hx).1; rw [hsm] at this; cases this
        · intro h i hi hsi j hj
          simp only [Bool.not_false] at h
          have hl := below_lt hP hj
          rw [xor_bit] at hsi ⊢
          by_cases hmi : m = i
          · subst hmi
            rw [if_neg (by omega), hbelow j hj]
            exact idl_closed hP (bk_idl hP s) h hj
          · rw [if_neg hmi] at hsi
            have hoj := idl_closed hP hoi hsi hj
            by_cases hmj : m = j
            · subst hmj; rw [hom] at hoj; cases hoj
            · rw [if_neg hmj]; exact hoj
    unfold tog
    by_cases hk : idl P (o ^^^ 2 ^ m) = true
    · rw [if_pos hk, xor_bit]
      have hk2 := key.1 hk
      by_cases hmj : m = j
      · subst hmj
        rw [if_pos rfl, if_pos (by omega), hom, hk2]
      · rw [if_neg hmj, hob]
        by_cases h : j < m
        · rw [if_pos h, if_pos (by omega)]
        · rw [if_neg h, if_neg (by omega)]
    · rw [if_neg hk, hob]
      by_cases hmj : m = j
      · subst hmj
        rw [if_neg (by omega), if_pos (by omega)]
        cases h1 : s.testBit m <;> cases h2 : (bk P s).testBit m <;> first | rfl | (exfalso; apply hk; rw [key, h1, h2]; rfl)
      · by_cases h : j < m
        · rw [if_pos h, if_pos (by omega)]
        · rw [if_neg h, if_neg (by omega)]
end
end Go.Proofs.Ytkikpkfambagnaa.B

/-! ### Mwrd -/
/- Words of elements, plain. -/
namespace Go.Proofs.Ytkikpkfambagnaa.B
open Go.RowKit Go.Proofs.Ytkikpkfambagnaa.M Go.Proofs.YtkikpkfambagnaaW.PrintWords Go.Proofs.YtkikpkfambagnaaW.PrintLast Go.Proofs.YtkikpkfambagnaaW.PrintMore
attribute [local irreducible] Go.bits shl shr sd
theorem getD_mem {o : List Int} {i : Nat} (h : i < o.length) : o.getD i 0 ∈ o := by
  rw [List.getD_eq_getElem?_getD, List.getElem?_eq_getElem h, Option.getD_some]; exact List.getElem_mem h
def rangeB (n : Int) (o : List Int) : Bool := o.all (fun e => decide (0 ≤ e ∧ e ≤ n))
def wordB (P : List Nat) (m : Int) (o : List Int) : Bool := decide ((o.length : Int) ≤ m) && rangeB ((P.length : Int) - 1) o
/-- A set toggled at the elements of a word. -/
def togs (P : List Nat) (s : Nat) (o : List Int) : Nat := o.foldl (fun s e => tog P s e.toNat) s
theorem range_at {n : Nat} {o : List Int} (hr : rangeB ((n : Int) - 1) o = true) {i : Nat} (hi : i < o.length) : ∃ e : Nat, o.getD i 0 = (e : Int) ∧ e < n := by
  unfold rangeB at hr
  rw [List.all_eq_true] at hr
  have := hr _ (getD_mem hi)
  rw [decide_eq_true_eq] at this
  exact ⟨(o.getD i 0).toNat, by omega, by omega⟩
theorem range_mem {n : Nat} {o : List Int} (hr : rangeB ((n : Int) - 1) o = true) {e : Int} (he : e ∈ o) : e.toNat < n := by
  unfold rangeB at hr
  rw [List.all_eq_true] at hr
  have := hr _ he
  rw [decide_eq_true_eq] at this
  omega
theorem togs_ok {P : List Nat} : ∀ (o : List Int) (s : Nat), (∀ e ∈ o, e.toNat < P.length) → s < 2 ^ P.length → togs P s o < 2 ^ P.length ∧ (idl P s = true → idl P (togs P s o) = true) := by
  intro o
  induction o with
  | nil => intro s _ hs; exact ⟨hs, fun h => h⟩
  | cons e es ih =>
    intro s h hs
    have h1 := ih (tog P s e.toNat) (fun x hx => h x (List.mem_cons_of_mem _ hx)) (tog_lt hs (h e (List.mem_cons_self ..)))
    exact ⟨h1.1, fun hi => h1.2 (tog_idl hi)⟩
/-- The first place where something holds, or -1. -/
def idx (p : Int → Bool) : Nat → List Int → Int
  | _, [] => -1
  | i, e :: es => if p e = true then (i : Int) else idx p (i + 1) es
theorem idx_any (p : Int → Bool) : ∀ (o : List Int) (i : Nat), decide (idx p i o ≥ 0) = o.any p := by
  intro o
  induction o with
  | nil => intro i; rfl
  | cons e es ih =>
    intro i
    unfold idx
    rw [List.any_cons]
    cases h : p e with
    | true => rw [if_pos rfl, Bool.true_or]; exact decide_eq_true (by omega)
    | false => rw [if_neg (by decide), Bool.false_or]; exact ih _
theorem range_any (n : Int) (o : List Int) : (!o.any (fun e => !decide (0 ≤ e ∧ e ≤ n))) = rangeB n o := by
  unfold rangeB
  rw [List.all_eq_not_any_not]
end Go.Proofs.Ytkikpkfambagnaa.B

/-! ### Sall -/
/- Are all of a list within bounds, as the reference asks. -/
namespace Go.Proofs.Ytkikpkfambagnaa.B
open Go.RowKit Go.Proofs.Ytkikpkfambagnaa.M Go.Proofs.YtkikpkfambagnaaW.PrintWords Go.Proofs.YtkikpkfambagnaaW.PrintLast Go.Proofs.YtkikpkfambagnaaW.PrintMore
attribute [local irreducible] Go.bits shl shr sd
theorem l1All_ev (o : List Int) (ho : o.length ≤ 1048576) (n : Int) : Ev (fun k => spec_l1All.f k o 0 n) (rangeB n o) := by
  have H : ∀ (i : Nat) (_ : Unit), i ≤ o.length → True → Ev (fun k => spec_l1All.l0 k 0 n o (o.length : Int) (i : Int)) (rangeB n (o.drop i)) := by
    refine ev_down (fun k (_ : Unit) i => spec_l1All.l0 k 0 n o (o.length : Int) i) (fun i _ => rangeB n (o.drop i)) o.length (fun _ _ => True) ?_ ?_
    · intro _ _
      rw [List.drop_length]
      exact ev_step (Ev.now _) (fun k => by simp only [spec_l1All.l0]; rw [if_neg (by omega)]; rfl)
    · intro i _ hi _ ih
      have c1 : (i : Int) < (o.length : Int) := by omega
      have c2 : 0 ≤ (i : Int) := by omega
      have hw : wrap64 ((i : Int) + 1) = (i : Int) + 1 := wrap64_id (by omega) (by omega)
      rw [drop_step o 0 hi]
      unfold rangeB
      rw [List.all_cons]
      by_cases hr : 0 ≤ o.getD i 0 ∧ o.getD i 0 ≤ n
      · rw [decide_eq_true hr, Bool.true_and]
        exact ev_step (ih () trivial) (fun k => by simp only [spec_l1All.l0]; rw [if_pos c1, if_pos c2, if_pos c1, rd_nat, l1In_is, decide_eq_true hr, Option.bind_some, if_pos rfl, hw])
      · rw [decide_eq_false hr, Bool.false_and]
        exact ev_step (Ev.now _) (fun k => by simp only [spec_l1All.l0]; rw [if_pos c1, if_pos c2, if_pos c1, rd_nat, l1In_is, decide_eq_false hr, Option.bind_some, if_neg (by decide)])
  unfold spec_l1All.f
  have := H 0 () (by omega) trivial
  rwa [List.drop_zero] at this
end Go.Proofs.Ytkikpkfambagnaa.B

/-! ### L0 -/
/- What the laws' own helpers answer: copies, comparisons. -/
namespace Go.Proofs.Ytkikpkfambagnaa.B
open Go.RowKit Go.Proofs.Ytkikpkfambagnaa.M Go.Proofs.YtkikpkfambagnaaW.PrintWords Go.Proofs.YtkikpkfambagnaaW.PrintLast Go.Proofs.YtkikpkfambagnaaW.PrintMore
attribute [local irreducible] Go.bits shl shr sd
theorem toIntS_l0 (l : List Int) (hl : l.length ≤ 35184372088832) : ∀ (i : Nat) (st : List Int), i ≤ l.length → (st.length = l.length ∧ ∀ j, j < i → st.getD j 0 = l.getD j 0) → Ev (fun k => laws_toIntS.l0 k l st (i : Int)) l := by
  refine ev_down (fun k (st : List Int) i => laws_toIntS.l0 k l st i) (fun _ _ => l) l.length (fun i st => st.length = l.length ∧ ∀ j, j < i → st.getD j 0 = l.getD j 0) ?_ ?_
  · rintro st ⟨h1, h2⟩
    have : st = l := List.ext_getElem h1 (fun i hi hi' => by
      have := h2 i hi'
      simpa [List.getD_eq_getElem?_getD, List.getElem?_eq_getElem hi, List.getElem?_eq_getElem hi'] using this)
    subst this
    exact ev_step (Ev.now _) (fun k => by simp only [laws_toIntS.l0]; rw [if_neg (by omega)])
  · rintro i st hi ⟨h1, h2⟩ ih
    have c1 : (i : Int) < (l.length : Int) := by omega
    have c2 : 0 ≤ (i : Int) := by omega
    have c3 : (i : Int) < (st.length : Int) := by omega
    have hw : wrap64 ((i : Int) + 1) = (i : Int) + 1 := wrap64_id (by omega) (by omega)
    refine ev_step (ih (st.set i (rd l (i : Int))) ⟨by rw [List.length_set]; exact h1, fun j hj => ?_⟩) (fun k => by simp only [laws_toIntS.l0]; rw [if_pos c1, if_pos c2, if_pos c3, hw, Int.toNat_natCast])
    rw [rd_nat, List.getD_eq_getElem?_getD, List.getElem?_set]
    by_cases h : i = j
    · subst h
      rw [if_pos rfl, if_pos (by omega), Option.getD_some]
    · rw [if_neg h, ← List.getD_eq_getElem?_getD]
      exact h2 j (by omega)
theorem toIntS_ev (l : List Int) (hl : l.length ≤ 35184372088832) : Ev (fun k => laws_toIntS.f k l) l := by
  unfold laws_toIntS.f
  refine ev_as (toIntS_l0 l hl 0 (List.replicate ((l.length : Int)).toNat 0) (by omega) ⟨by simp, fun j h => absurd h (by omega)⟩) (fun k => ?_)
  rw [if_pos (by omega), if_pos (by omega)]
  rfl
theorem eqIntS_l0 (l : List Int) (hl : l.length ≤ 35184372088832) : ∀ (i : Nat) (_ : Unit), i ≤ l.length → True → Ev (fun k => laws_eqIntS.l0 k l l (i : Int)) true := by
  refine ev_down (fun k (_ : Unit) i => laws_eqIntS.l0 k l l i) (fun _ _ => true) l.length (fun _ _ => True) ?_ ?_
  · intro _ _
    exact ev_step (Ev.now _) (fun k => by simp only [laws_eqIntS.l0]; rw [if_neg (by omega)])
  · intro i _ hi _ ih
    have c1 : (i : Int) < (l.length : Int) := by omega
    have hw : wrap64 ((i : Int) + 1) = (i : Int) + 1 := wrap64_id (by omega) (by omega)
    exact ev_step (ih () trivial) (fun k => by simp only [laws_eqIntS.l0]; rw [if_pos c1, if_pos (by omega), if_pos c1, if_pos trivial, hw])
theorem eqIntS_ev (l : List Int) (hl : l.length ≤ 35184372088832) : Ev (fun k => laws_eqIntS.f k l l) true := by
  unfold laws_eqIntS.f
  exact ev_as (eqIntS_l0 l hl 0 () (by omega) trivial) (fun k => by rw [if_pos rfl]; rfl)
theorem eqPoset_ev (l : List Int) (hl : l.length ≤ 35184372088832) : Ev (fun k => laws_eqPoset.f k l l) true := by
  unfold laws_eqPoset.f
  exact Ev.bind (eqIntS_ev l hl) (Ev.now _)
end Go.Proofs.Ytkikpkfambagnaa.B

/-! ### Lm -/
/- Marks: what is written into a list that was handed back, and found there again. -/
namespace Go.Proofs.Ytkikpkfambagnaa.B
open Go.RowKit Go.Proofs.Ytkikpkfambagnaa.M Go.Proofs.YtkikpkfambagnaaW.PrintWords Go.Proofs.YtkikpkfambagnaaW.PrintLast Go.Proofs.YtkikpkfambagnaaW.PrintMore
attribute [local irreducible] Go.bits shl shr sd
/-- The list with its places numbered from k on. -/
def marked (l : List Int) (k : Int) : List Int := (List.range l.length).map (fun j : Nat => k + (j : Int))
theorem markIntS_l0 (l : List Int) (k0 : Int) (hl : l.length ≤ 35184372088832) (h0 : 0 ≤ k0) (h1 : k0 ≤ 35184372088832) : ∀ (i : Nat) (st : List Int), i ≤ l.length → (st.length = l.length ∧ ∀ j, j < i → st.getD j 0 = k0 + (j : Int)) →
    Ev (fun k => laws_markIntS.l0 k st (k0 + (i : Int)) (i : Int)) (k0 + (l.length : Int), marked l k0) := by
  have H := ev_down (fun k (st : List Int) i => laws_markIntS.l0 k st (k0 + i) i) (fun _ _ => (k0 + (l.length : Int), marked l k0)) l.length (fun i st => st.length = l.length ∧ ∀ j, j < i → st.getD j 0 = k0 + (j : Int)) ?_ ?_
  · exact H
  · rintro st ⟨h2, h3⟩
    have : st = marked l k0 := by
      unfold marked
      apply List.ext_getElem
      · simpa using h2
      · intro i hi hi'
        have := h3 i (by omega)
        rw [List.getD_eq_getElem?_getD, List.getElem?_eq_getElem hi] at this
        simpa using this
    rw [this]
    exact ev_step (Ev.now _) (fun k => by simp only [laws_markIntS.l0]; rw [if_neg (by unfold marked; simp)])
  · rintro i st hi ⟨h2, h3⟩ ih
    have c1 : (i : Int) < (st.length : Int) := by omega
    have hw : wrap64 ((i : Int) + 1) = (i : Int) + 1 := wrap64_id (by omega) (by omega)
    have hw2 : wrap64 (k0 + (i : Int) + 1) = k0 + ((i : Int) + 1) := by rw [wrap64_id (by omega) (by omega)]; omega
    refine ev_step (ih (st.set i (k0 + (i : Int))) ⟨by rw [List.length_set]; exact h2, fun j hj => ?_⟩) (fun k => by simp only [laws_markIntS.l0]; rw [if_pos c1, if_pos (by omega), hw, hw2, Int.toNat_natCast])
    rw [List.getD_eq_getElem?_getD, List.getElem?_set]
    by_cases h : i = j
    · subst h
      rw [if_pos rfl, if_pos (by omega), Option.getD_some]
    · rw [if_neg h, ← List.getD_eq_getElem?_getD]
      exact h3 j (by omega)
theorem markIntS_ev (l : List Int) (k0 : Int) (hl : l.length ≤ 35184372088832) (h0 : 0 ≤ k0) (h1 : k0 ≤ 35184372088832) : Ev (fun k => laws_markIntS.f k l k0) (k0 + (l.length : Int), marked l k0) := by
  unfold laws_markIntS.f
  have := markIntS_l0 l k0 hl h0 h1 0 l (by omega) ⟨rfl, fun j h => absurd h (by omega)⟩
  simpa using this
theorem markPoset_ev (l : List Int) (k0 : Int) (hl : l.length ≤ 35184372088832) (h0 : 0 ≤ k0) (h1 : k0 ≤ 35184372088832) : Ev (fun k => laws_markPoset.f k l k0) (k0 + (l.length : Int), marked l k0) := by
  unfold laws_markPoset.f
  exact Ev.bind (markIntS_ev l k0 hl h0 h1) (Ev.now _)
theorem marked_length (l : List Int) (k : Int) : (marked l k).length = l.length := by unfold marked; simp
theorem marked_getD (l : List Int) (k : Int) {j : Nat} (h : j < l.length) : (marked l k).getD j 0 = k + (j : Int) := by
  unfold marked
  simp [List.getD_eq_getElem?_getD, h]
theorem heldIntS_ev (l : List Int) (k0 : Int) (hl : l.length ≤ 35184372088832) (h0 : 0 ≤ k0) (h1 : k0 ≤ 35184372088832) : Ev (fun k => laws_heldIntS.f k (marked l k0) k0) (k0 + (l.length : Int)) := by
  have H := ev_down (fun k (_ : Unit) i => laws_heldIntS.l0 k (marked l k0) (k0 + i) i) (fun _ _ => k0 + (l.length : Int)) l.length (fun _ _ => True) ?_ ?_ 0 () (by omega) trivial
  · unfold laws_heldIntS.f
    simpa using H
  · intro _ _
    exact ev_step (Ev.now _) (fun k => by simp only [laws_heldIntS.l0]; rw [if_neg (by rw [marked_length]; omega)])
  · intro i _ hi _ ih
    have c1 : (i : Int) < ((marked l k0).length : Int) := by rw [marked_length]; omega
    have hw : wrap64 ((i : Int) + 1) = (i : Int) + 1 := wrap64_id (by omega) (by omega)
    have hw2 : wrap64 (k0 + (i : Int) + 1) = k0 + ((i : Int) + 1) := by rw [wrap64_id (by omega) (by omega)]; omega
    exact ev_step (ih () trivial) (fun k => by simp only [laws_heldIntS.l0]; rw [if_pos c1, if_pos (by omega), rd_nat, marked_getD l k0 hi, if_pos rfl, hw, hw2])
end Go.Proofs.Ytkikpkfambagnaa.B

/-! ### Lss -/
/- Rows of rows: compared, marked, found again. -/
namespace Go.Proofs.Ytkikpkfambagnaa.B
open Go.RowKit Go.Proofs.Ytkikpkfambagnaa.M Go.Proofs.YtkikpkfambagnaaW.PrintWords Go.Proofs.YtkikpkfambagnaaW.PrintLast Go.Proofs.YtkikpkfambagnaaW.PrintMore
attribute [local irreducible] Go.bits shl shr sd
def tot : List (List Int) → Nat
  | [] => 0
  | o :: t => o.length + tot t
/-- The rows with their places numbered from k on. -/
def markedSS : List (List Int) → Int → List (List Int)
  | [], _ => []
  | o :: t, k => marked o k :: markedSS t (k + (o.length : Int))
theorem tot_cons (o : List Int) (t : List (List Int)) : tot (o :: t) = o.length + tot t := rfl
theorem markedSS_cons (o : List Int) (t : List (List Int)) (k : Int) : markedSS (o :: t) k = marked o k :: markedSS t (k + (o.length : Int)) := rfl
theorem rdL_at (pre : List (List Int)) (o : List Int) (t : List (List Int)) : rd_L1 (pre ++ o :: t) (pre.length : Int) = o := by
  unfold rd_L1
  rw [Int.toNat_natCast, List.getD_eq_getElem?_getD, List.getElem?_append_right (Nat.le_refl _), Nat.sub_self]
  rfl
theorem set_at (pre : List (List Int)) (o o' : List Int) (t : List (List Int)) : (pre ++ o :: t).set pre.length o' = (pre ++ [o']) ++ t := by
  rw [List.set_append_right _ _ (Nat.le_refl _), Nat.sub_self, List.append_assoc]
  rfl
theorem mem_tot : ∀ {R : List (List Int)} {o : List Int}, o ∈ R → o.length ≤ tot R
  | [], _, h => by cases h
  | x :: t, o, h => by
    rw [tot_cons]
    rcases List.mem_cons.1 h with rfl | h
    · omega
    · have := mem_tot h
      omega
theorem eqIntSS_ev (R : List (List Int)) (hR : R.length ≤ 4194304) (hT : tot R ≤ 4194304) : Ev (fun k => laws_eqIntSS.f k R R) true := by
  have H : ∀ (S pre : List (List Int)), pre ++ S = R → Ev (fun k => laws_eqIntSS.l0 k R R (pre.length : Int)) true := by
    intro S
    induction S with
    | nil =>
      intro pre h
      rw [List.append_nil] at h
      subst h
      exact ev_step (Ev.now _) (fun k => by simp only [laws_eqIntSS.l0]; rw [if_neg (by omega)])
    | cons o t ih =>
      intro pre h
      have hl : R.length = pre.length + (t.length + 1) := by rw [← h, List.length_append, List.length_cons]
      have c1 : (pre.length : Int) < (R.length : Int) := by omega
      have hw : wrap64 ((pre.length : Int) + 1) = (pre.length : Int) + 1 := wrap64_id (by omega) (by omega)
      have hr : rd_L1 R (pre.length : Int) = o := by rw [← h]; exact rdL_at pre o t
      have ho : o.length ≤ tot R := mem_tot (by rw [← h]; simp)
      have h2 := ih (pre ++ [o]) (by rw [List.append_assoc]; exact h)
      rw [List.length_append, List.length_singleton, Int.natCast_add] at h2
      refine ev_stepb (eqIntS_ev o (by omega)) ?_ (fun k => by simp only [laws_eqIntSS.l0]; rw [if_pos c1, if_pos (by omega), if_pos c1, hr])
      exact ev_as h2 (fun k => by rw [if_pos rfl, hw]; rfl)
  unfold laws_eqIntSS.f
  exact ev_as (H R [] rfl) (fun k => by rw [if_pos rfl]; rfl)
theorem markIntSS_l0 : ∀ (S pre : List (List Int)) (kk : Int), pre.length + S.length ≤ 4194304 → 0 ≤ kk → kk + (tot S : Int) ≤ 8388608 → Ev (fun k => laws_markIntSS.l0 k (pre ++ S) kk (pre.length : Int)) (kk + (tot S : Int), pre ++ markedSS S kk)
  | [], pre, kk, _, _, _ => by
    rw [List.append_nil]
    refine ev_eq (ev_step (Ev.now (kk, pre)) (fun k => by simp only [laws_markIntSS.l0]; rw [if_neg (by omega)])) ?_
    simp [tot, markedSS]
  | o :: t, pre, kk, h1, h2, h3 => by
    rw [tot_cons] at h3
    rw [List.length_cons] at h1
    rw [Int.natCast_add] at h3
    have c1 : (pre.length : Int) < ((pre ++ o :: t).length : Int) := by rw [List.length_append, List.length_cons]; omega
    have hw : wrap64 ((pre.length : Int) + 1) = (pre.length : Int) + 1 := wrap64_id (by omega) (by omega)
    have h4 := markIntSS_l0 t (pre ++ [marked o kk]) (kk + (o.length : Int)) (by rw [List.length_append, List.length_singleton]; omega) (by omega) (by omega)
    rw [List.length_append, List.length_singleton, Int.natCast_add] at h4
    refine ev_stepb (markIntS_ev o kk (by omega) h2 (by omega)) ?_ (fun k => by simp only [laws_markIntSS.l0]; rw [if_pos c1, if_pos (by omega), rdL_at])
    refine ev_eq (ev_as h4 (fun k => by rw [Int.toNat_natCast, set_at, hw]; rfl)) ?_
    rw [tot_cons, markedSS_cons, Int.natCast_add, Int.add_assoc, List.append_assoc]
    rfl
theorem markIntSS_ev (R : List (List Int)) (hR : R.length ≤ 4194304) (hT : tot R ≤ 4194304) : Ev (fun k => laws_markIntSS.f k R 1) (1 + (tot R : Int), markedSS R 1) := by
  unfold laws_markIntSS.f
  exact markIntSS_l0 R [] 1 (by simpa using hR) (by omega) (by omega)
theorem heldIntSS_l0 : ∀ (S pre : List (List Int)) (kk : Int), pre.length + S.length ≤ 4194304 → 0 ≤ kk → kk + (tot S : Int) ≤ 8388608 → Ev (fun k => laws_heldIntSS.l0 k (pre ++ markedSS S kk) kk (pre.length : Int)) (kk + (tot S : Int))
  | [], pre, kk, _, _, _ => by
    show Ev (fun k => laws_heldIntSS.l0 k (pre ++ []) kk (pre.length : Int)) (kk + (tot [] : Int))
    rw [List.append_nil]
    refine ev_eq (ev_step (Ev.now kk) (fun k => by simp only [laws_heldIntSS.l0]; rw [if_neg (by omega)])) ?_
    simp [tot]
  | o :: t, pre, kk, h1, h2, h3 => by
    rw [tot_cons] at h3
    rw [List.length_cons] at h1
    rw [Int.natCast_add] at h3
    rw [markedSS_cons]
    have c1 : (pre.length : Int) < ((pre ++ marked o kk :: markedSS t (kk + (o.length : Int))).length : Int) := by rw [List.length_append, List.length_cons]; omega
    have hw : wrap64 ((pre.length : Int) + 1) = (pre.length : Int) + 1 := wrap64_id (by omega) (by omega)
    have h4 := heldIntSS_l0 t (pre ++ [marked o kk]) (kk + (o.length : Int)) (by rw [List.length_append, List.length_singleton]; omega) (by omega) (by omega)
    rw [List.length_append, List.length_singleton, Int.natCast_add, List.append_assoc] at h4
    refine ev_stepb (heldIntS_ev o kk (by omega) h2 (by omega)) ?_ (fun k => by simp only [laws_heldIntSS.l0]; rw [if_pos c1, if_pos (by omega), rdL_at])
    refine ev_eq (ev_as h4 (fun k => by rw [if_neg (by omega), hw]; rfl)) ?_
    rw [tot_cons, Int.natCast_add, Int.add_assoc]
theorem heldIntSS_ev (R : List (List Int)) (hR : R.length ≤ 4194304) (hT : tot R ≤ 4194304) : Ev (fun k => laws_heldIntSS.f k (markedSS R 1) 1) (1 + (tot R : Int)) := by
  unfold laws_heldIntSS.f
  exact heldIntSS_l0 R [] 1 (by simpa using hR) (by omega) (by omega)
end Go.Proofs.Ytkikpkfambagnaa.B

/-! ### Sfrom -/
/- The poset of some relations: the reference's and the program's. -/
namespace Go.Proofs.Ytkikpkfambagnaa.B
open Go.RowKit Go.Proofs.Ytkikpkfambagnaa.M Go.Proofs.YtkikpkfambagnaaW.PrintWords Go.Proofs.YtkikpkfambagnaaW.PrintLast Go.Proofs.YtkikpkfambagnaaW.PrintMore
attribute [local irreducible] Go.bits shl shr sd
theorem cast_set (st : List Nat) (i v : Nat) : (cast st).set i (v : Int) = cast (st.set i v) := by unfold cast; rw [List.map_set]
theorem castL (st : List Nat) : (cast st).length = st.length := by unfold cast; rw [List.length_map]
section
variable {n : Nat} (h1 : 1 ≤ n) (hn : n ≤ 10) {R : List (List Int)} (hR1 : R.length ≤ 100)
include h1 hn hR1
set_option linter.unusedSectionVars false
theorem poFrom_l1 {i : Nat} (hi : i < n) (fin : List Nat → List Int) (hnext : ∀ st, Bnd n st → Ev (fun k => spec_poFrom.l0 k (n : Int) R ((i : Int) + 1) (cast st)) (fin st)) :
    ∀ (S pre : List (List Int)) (st : List Nat), pre ++ S = R → (∀ o ∈ S, okP (n : Int) o = true) → Bnd n st → Ev (fun k => spec_poFrom.l1 k (n : Int) R (i : Int) R (R.length : Int) (pre.length : Int) (cast st)) (fin (S.foldl (stepS i) st)) := by
  intro S
  induction S with
  | nil =>
    intro pre st h _ hb
    rw [List.append_nil] at h
    have hw : wrap64 ((i : Int) + 1) = (i : Int) + 1 := wrap64_id (by omega) (by omega)
    exact ev_step (hnext st hb) (fun k => by simp only [spec_poFrom.l1]; rw [if_neg (by rw [← h]; omega), hw])
  | cons o S ihS =>
    intro pre st h hok hb
    obtain ⟨g1, g2, g3, g4, g5⟩ := okP_nat (hok o List.mem_cons_self)
    have hl : R.length = pre.length + (S.length + 1) := by rw [← h, List.length_append, List.length_cons]
    have c1 : (pre.length : Int) < (R.length : Int) := by omega
    have c0 : 0 ≤ (pre.length : Int) := by omega
    have hw : wrap64 ((pre.length : Int) + 1) = (pre.length : Int) + 1 := wrap64_id (by omega) (by omega)
    have hr : rd_L1 R (pre.length : Int) = o := by rw [← h]; exact rdL_at pre o S
    have ih := ihS (pre ++ [o]) (stepS i st o) (by rw [List.append_assoc]; exact h) (fun o ho => hok o (List.mem_cons_of_mem _ ho)) (stepS_bnd hb hi (hok o List.mem_cons_self))
    rw [List.length_append, List.length_singleton, Int.natCast_add, show ((1 : Nat) : Int) = 1 from rfl] at ih
    rw [List.foldl_cons]
    have c2 : 1 < (o.length : Int) := by omega
    have c3 : 0 < (o.length : Int) := by omega
    have c4 : 0 ≤ (i : Int) := by omega
    have c5 : (i : Int) < ((cast st).length : Int) := by rw [castL, hb.1]; omega
    have c6 : 0 ≤ ((pj o : Nat) : Int) := by omega
    have c7 : ((pj o : Nat) : Int) < ((cast st).length : Int) := by rw [castL, hb.1]; omega
    by_cases he : pi' o = i
    · have hs : stepS i st o = st.set i (st.getD i 0 ||| (2 ^ pj o ||| st.getD (pj o) 0)) := by unfold stepS; rw [if_pos he]
      rw [hs] at ih ⊢
      have he2 : ((pi' o : Nat) : Int) = (i : Int) := by omega
      have z1 : pj o ≤ 62 := by omega
      have z2 : i ≤ 62 := by omega
      have z3 : pj o < 63 := by omega
      have hsh := shl_one (i := pj o) z3
      have b1 : st.getD (pj o) 0 < 2 ^ 63 := p63 (hb.2 _) z1
      have b2 : (2 : Nat) ^ pj o < 2 ^ 63 := two_pow_lt63 z3
      have b3 := or_nat b2 b1
      have b4 := or_nat (p63 (hb.2 i) z2) (Nat.or_lt_two_pow (n := 63) b2 b1)
      exact ev_step ih (fun k => by
        simp only [spec_poFrom.l1]
        rw [if_pos c1, if_pos c0, if_pos c1, hr, if_pos c2, g3, if_pos he2, if_pos c4, if_pos c5, if_pos c3, g2, if_pos c6, if_pos c7, rd_cast, rd_cast, hsh, b3, b4, Int.toNat_natCast, cast_set, hw])
    · have hs : stepS i st o = st := by unfold stepS; rw [if_neg he]
      rw [hs] at ih ⊢
      have he2 : ¬ ((pi' o : Nat) : Int) = (i : Int) := by omega
      exact ev_step ih (fun k => by
        simp only [spec_poFrom.l1]
        rw [if_pos c1, if_pos c0, if_pos c1, hr, if_pos c2, g3, if_neg he2, hw])
theorem poFrom_ev (hok : ∀ o ∈ R, okP (n : Int) o = true) : Ev (fun k => spec_poFrom.f k (n : Int) R) (cast (specR R n)) := by
  have H : ∀ (i : Nat) (st : List Nat), i ≤ n → Bnd n st → Ev (fun k => spec_poFrom.l0 k (n : Int) R (i : Int) (cast st)) (cast (foldFrom (fun st i => R.foldl (stepS i) st) i n st)) := by
    refine ev_down (fun k (st : List Nat) i => spec_poFrom.l0 k (n : Int) R i (cast st)) (fun i st => cast (foldFrom (fun st i => R.foldl (stepS i) st) i n st)) n (fun _ st => Bnd n st) ?_ ?_
    · intro st _
      rw [foldFrom_end]
      exact ev_step (Ev.now _) (fun k => by simp only [spec_poFrom.l0]; rw [if_neg (by omega)])
    · intro i st hi hb ih
      have c1 : (i : Int) < (n : Int) := by omega
      rw [foldFrom_step _ hi]
      have h0 := poFrom_l1 h1 hn hR1 hi (fun st => cast (foldFrom (fun st i => R.foldl (stepS i) st) (i + 1) n st)) (fun st hb => ih st hb) R [] st rfl hok hb
      exact ev_step h0 (fun k => by simp only [spec_poFrom.l0]; rw [if_pos c1]; rfl)
  unfold spec_poFrom.f specR
  have hz : List.replicate ((n : Int)).toNat (0 : Int) = cast (List.replicate n 0) := by unfold cast; rw [Int.toNat_natCast, List.map_replicate]; rfl
  exact ev_as (H 0 _ (by omega) (bnd_zero n)) (fun k => by rw [if_pos (by omega), if_pos (by omega), hz]; rfl)
theorem specFC_l0 (fin : List Int × Bool) (hnext : Ev (fun k => (spec_poFrom.f k (n : Int) R).bind fun t => some (t, true)) fin) : ∀ (S pre : List (List Int)), pre ++ S = R → ((∀ o ∈ R, okP (n : Int) o = true) ∨ ∃ o ∈ S, okP (n : Int) o = false) →
    ((∀ o ∈ R, okP (n : Int) o = true) → Ev (fun k => spec_FromCovers.l0 k (n : Int) R R (R.length : Int) (pre.length : Int)) fin) ∧ ((∃ o ∈ S, okP (n : Int) o = false) → Ev (fun k => spec_FromCovers.l0 k (n : Int) R R (R.length : Int) (pre.length : Int)) ([], false)) := by
  intro S
  induction S with
  | nil =>
    intro pre h _
    rw [List.append_nil] at h
    refine ⟨fun _ => ev_step hnext (fun k => by simp only [spec_FromCovers.l0]; rw [if_neg (by rw [← h]; omega)]), fun ⟨o, ho, _⟩ => by cases ho⟩
  | cons o S ihS =>
    intro pre h hd
    have hl : R.length = pre.length + (S.length + 1) := by rw [← h, List.length_append, List.length_cons]
    have c1 : (pre.length : Int) < (R.length : Int) := by omega
    have c0 : 0 ≤ (pre.length : Int) := by omega
    have hw : wrap64 ((pre.length : Int) + 1) = (pre.length : Int) + 1 := wrap64_id (by omega) (by omega)
    have hw2 : wrap64 ((n : Int) - 1) = (n : Int) - 1 := wrap64_id (by omega) (by omega)
    have hr : rd_L1 R (pre.length : Int) = o := by rw [← h]; exact rdL_at pre o S
    have hmem : o ∈ R := by rw [← h]; simp
    by_cases hl2 : o.length = 2
    · have hl3 : (o.length : Int) = 2 := by omega
      have c2 : 1 < (o.length : Int) := by omega
      have c3 : 0 < (o.length : Int) := by omega
      have hall := l1All_ev o (by omega) ((n : Int) - 1)
      have hrg : rangeB ((n : Int) - 1) o = decide ((0 ≤ rd o 0 ∧ rd o 0 ≤ (n : Int) - 1) ∧ 0 ≤ rd o 1 ∧ rd o 1 ≤ (n : Int) - 1) := by
        match o, hl2 with
        | [x, y], _ =>
          unfold rangeB
          rw [List.all_cons, List.all_cons, List.all_nil, Bool.and_true, Bool.eq_iff_iff, Bool.and_eq_true, decide_eq_true_eq, decide_eq_true_eq, decide_eq_true_eq]
          exact Iff.rfl
      cases hok : okP (n : Int) o with
      | true =>
        obtain ⟨g1, g2, g3, g4, g5⟩ := okP_nat hok
        have hrt : rangeB ((n : Int) - 1) o = true := by rw [hrg, decide_eq_true_eq]; omega
        have hlt : ¬ rd o 0 ≥ rd o 1 := by omega
        obtain ⟨i1, i2⟩ := ihS (pre ++ [o]) (by rw [List.append_assoc]; exact h) (hd.imp id (fun ⟨x, hx, hb⟩ => by
          rcases List.mem_cons.1 hx with rfl | hx
          · rw [hok] at hb; cases hb
          · exact ⟨x, hx, hb⟩))
        rw [List.length_append, List.length_singleton, Int.natCast_add, show ((1 : Nat) : Int) = 1 from rfl] at i1 i2
        have go : ∀ r, Ev (fun k => spec_FromCovers.l0 k (n : Int) R R (R.length : Int) ((pre.length : Int) + 1)) r → Ev (fun k => spec_FromCovers.l0 k (n : Int) R R (R.length : Int) (pre.length : Int)) r := fun r hr' => by
          refine ev_stepb (hrt ▸ hall) ?_ (fun k => by simp only [spec_FromCovers.l0]; rw [if_pos c1, if_pos c0, if_pos c1, hr, if_pos hl3, hw2])
          exact ev_as hr' (fun k => by rw [if_pos rfl, if_pos c3, if_pos c2, if_neg hlt, hw])
        refine ⟨fun ha => go _ (i1 ha), fun ⟨x, hx, hb⟩ => go _ (i2 ?_)⟩
        rcases List.mem_cons.1 hx with rfl | hx
        · rw [hok] at hb; cases hb
        · exact ⟨x, hx, hb⟩
      | false =>
        refine ⟨fun ha => (by have := ha o hmem; rw [hok] at this; cases this), fun _ => ?_⟩
        cases hrt : rangeB ((n : Int) - 1) o with
        | false =>
          refine ev_stepb (hrt ▸ hall) ?_ (fun k => by simp only [spec_FromCovers.l0]; rw [if_pos c1, if_pos c0, if_pos c1, hr, if_pos hl3, hw2])
          exact ev_as (Ev.now _) (fun k => by rw [if_neg (by decide)])
        | true =>
          have hge : rd o 0 ≥ rd o 1 := by
            unfold okP at hok
            rw [decide_eq_true hl2, Bool.true_and, decide_eq_false_iff_not] at hok
            rw [hrg, decide_eq_true_eq] at hrt
            omega
          refine ev_stepb (hrt ▸ hall) ?_ (fun k => by simp only [spec_FromCovers.l0]; rw [if_pos c1, if_pos c0, if_pos c1, hr, if_pos hl3, hw2])
          exact ev_as (Ev.now _) (fun k => by rw [if_pos rfl, if_pos c3, if_pos c2, if_pos hge])
    · have hok : okP (n : Int) o = false := by unfold okP; rw [decide_eq_false hl2, Bool.false_and]
      have hl3 : ¬ (o.length : Int) = 2 := by omega
      refine ⟨fun ha => (by have := ha o hmem; rw [hok] at this; cases this), fun _ => ?_⟩
      exact ev_step (Ev.now _) (fun k => by simp only [spec_FromCovers.l0]; rw [if_pos c1, if_pos c0, if_pos c1, hr, if_neg hl3])
theorem specFC_bad : ∀ (S pre : List (List Int)), pre ++ S = R → (∃ o ∈ S, okP (n : Int) o = false) → Ev (fun k => spec_FromCovers.l0 k (n : Int) R R (R.length : Int) (pre.length : Int)) ([], false) := by
  intro S
  induction S with
  | nil =>
    intro pre h ⟨o, ho, _⟩
    cases ho
  | cons o S ihS =>
    intro pre h ⟨xb, hxb, hbb⟩
    have hl : R.length = pre.length + (S.length + 1) := by rw [← h, List.length_append, List.length_cons]
    have c1 : (pre.length : Int) < (R.length : Int) := by omega
    have c0 : 0 ≤ (pre.length : Int) := by omega
    have hw : wrap64 ((pre.length : Int) + 1) = (pre.length : Int) + 1 := wrap64_id (by omega) (by omega)
    have hw2 : wrap64 ((n : Int) - 1) = (n : Int) - 1 := wrap64_id (by omega) (by omega)
    have hr : rd_L1 R (pre.length : Int) = o := by rw [← h]; exact rdL_at pre o S
    have hmem : o ∈ R := by rw [← h]; simp
    by_cases hl2 : o.length = 2
    · have hl3 : (o.length : Int) = 2 := by omega
      have c2 : 1 < (o.length : Int) := by omega
      have c3 : 0 < (o.length : Int) := by omega
      have hall := l1All_ev o (by omega) ((n : Int) - 1)
      have hrg : rangeB ((n : Int) - 1) o = decide ((0 ≤ rd o 0 ∧ rd o 0 ≤ (n : Int) - 1) ∧ 0 ≤ rd o 1 ∧ rd o 1 ≤ (n : Int) - 1) := by
        match o, hl2 with
        | [x, y], _ =>
          unfold rangeB
          rw [List.all_cons, List.all_cons, List.all_nil, Bool.and_true, Bool.eq_iff_iff, Bool.and_eq_true, decide_eq_true_eq, decide_eq_true_eq, decide_eq_true_eq]
          exact Iff.rfl
      cases hok : okP (n : Int) o with
      | true =>
        obtain ⟨g1, g2, g3, g4, g5⟩ := okP_nat hok
        have hrt : rangeB ((n : Int) - 1) o = true := by rw [hrg, decide_eq_true_eq]; omega
        have hlt : ¬ rd o 0 ≥ rd o 1 := by omega
        have hxS : xb ∈ S := by
          rcases List.mem_cons.1 hxb with rfl | hx
          · rw [hok] at hbb; cases hbb
          · exact hx
        have i2 := ihS (pre ++ [o]) (by rw [List.append_assoc]; exact h) ⟨xb, hxS, hbb⟩
        rw [List.length_append, List.length_singleton, Int.natCast_add, show ((1 : Nat) : Int) = 1 from rfl] at i2
        have go : ∀ r, Ev (fun k => spec_FromCovers.l0 k (n : Int) R R (R.length : Int) ((pre.length : Int) + 1)) r → Ev (fun k => spec_FromCovers.l0 k (n : Int) R R (R.length : Int) (pre.length : Int)) r := fun r hr' => by
          refine ev_stepb (hrt ▸ hall) ?_ (fun k => by simp only [spec_FromCovers.l0]; rw [if_pos c1, if_pos c0, if_pos c1, hr, if_pos hl3, hw2])
          exact ev_as hr' (fun k => by rw [if_pos rfl, if_pos c3, if_pos c2, if_neg hlt, hw])
        exact go _ i2
      | false =>
        cases hrt : rangeB ((n : Int) - 1) o with
        | false =>
          refine ev_stepb (hrt ▸ hall) ?_ (fun k => by simp only [spec_FromCovers.l0]; rw [if_pos c1, if_pos c0, if_pos c1, hr, if_pos hl3, hw2])
          exact ev_as (Ev.now _) (fun k => by rw [if_neg (by decide)])
        | true =>
          have hge : rd o 0 ≥ rd o 1 := by
            unfold okP at hok
            rw [decide_eq_true hl2, Bool.true_and, decide_eq_false_iff_not] at hok
            rw [hrg, decide_eq_true_eq] at hrt
            omega
          refine ev_stepb (hrt ▸ hall) ?_ (fun k => by simp only [spec_FromCovers.l0]; rw [if_pos c1, if_pos c0, if_pos c1, hr, if_pos hl3, hw2])
          exact ev_as (Ev.now _) (fun k => by rw [if_pos rfl, if_pos c3, if_pos c2, if_pos hge])
    · have hok : okP (n : Int) o = false := by unfold okP; rw [decide_eq_false hl2, Bool.false_and]
      have hl3 : ¬ (o.length : Int) = 2 := by omega
      exact ev_step (Ev.now _) (fun k => by simp only [spec_FromCovers.l0]; rw [if_pos c1, if_pos c0, if_pos c1, hr, if_neg hl3])
theorem specFC_no : ∀ (S pre : List (List Int)), pre ++ S = R → (∃ o ∈ S, okP (n : Int) o = false) → Ev (fun k => spec_FromCovers.l0 k (n : Int) R R (R.length : Int) (pre.length : Int)) ([], false) := by
  intro S pre h hex
  by_cases hall : ∀ o ∈ R, okP (n : Int) o = true
  · obtain ⟨o, ho, hb⟩ := hex
    have := hall o (by rw [← h]; exact List.mem_append_right _ ho)
    rw [hb] at this
    cases this
  · exact specFC_bad h1 hn hR1 S pre h hex
theorem implFC_l2 {i : Nat} (hi : i < n) (its : List Nat) (hits : ∀ j ∈ its, j < i) (hil : its.length ≤ 10) (fin : List Nat → List Int × Bool) (hnext : ∀ st, Bnd n st → Ev (fun k => impl_FromCovers.l1 k (n : Int) ((i : Int) + 1) (cast st)) (fin st)) :
    ∀ (e : Nat) (st : List Nat), e ≤ its.length → Bnd n st → Ev (fun k => impl_FromCovers.l2 k (i : Int) (n : Int) (i : Int) (cast its) ((cast its).length : Int) (e : Int) (cast st)) (fin ((its.drop e).foldl (stepI i) st)) := by
  refine ev_down (fun k (st : List Nat) e => impl_FromCovers.l2 k (i : Int) (n : Int) (i : Int) (cast its) ((cast its).length : Int) e (cast st)) (fun e st => fin ((its.drop e).foldl (stepI i) st)) its.length (fun _ st => Bnd n st) ?_ ?_
  · intro st hb
    rw [List.drop_length]
    have hw : wrap64 ((i : Int) + 1) = (i : Int) + 1 := wrap64_id (by omega) (by omega)
    exact ev_step (hnext st hb) (fun k => by simp only [impl_FromCovers.l2]; rw [if_neg (by rw [cast_length]; omega), hw])
  · intro e st he hb ih
    obtain ⟨j, hj⟩ : ∃ j, its.getD e 0 = j := ⟨_, rfl⟩
    have hji : j < i := hits j (by rw [← hj]; exact getD_memN he)
    have c1 : (e : Int) < ((cast its).length : Int) := by rw [cast_length]; omega
    have c2 : 0 ≤ (e : Int) := by omega
    have c3 : 0 ≤ (i : Int) := by omega
    have c4 : (i : Int) < ((cast st).length : Int) := by rw [castL, hb.1]; omega
    have c5 : 0 ≤ (j : Int) := by omega
    have c6 : (j : Int) < ((cast st).length : Int) := by rw [castL, hb.1]; omega
    have hr : rd (cast its) (e : Int) = (j : Int) := by rw [← hj]; exact rd_cast _ _
    have hw : wrap64 ((e : Int) + 1) = (e : Int) + 1 := wrap64_id (by omega) (by omega)
    have b4 := or_nat (p63 (hb.2 i) (by omega)) (p63 (hb.2 j) (by omega))
    rw [drop_step its 0 he, hj, List.foldl_cons]
    exact ev_step (ih (stepI i st j) (stepI_bnd hb hi hji)) (fun k => by
      simp only [impl_FromCovers.l2]
      rw [if_pos c1, if_pos c2, if_pos c1, if_pos c3, if_pos c4, hr, if_pos c5, if_pos c6, rd_cast, rd_cast, b4, Int.toNat_natCast, cast_set, hw]
      rfl)
theorem implFC_l1 : ∀ (i : Nat) (st : List Nat), i ≤ n → Bnd n st → Ev (fun k => impl_FromCovers.l1 k (n : Int) (i : Int) (cast st)) (cast (foldFrom (fun st i => (items (st.getD i 0)).foldl (stepI i) st) i n st), true) := by
  refine ev_down (fun k (st : List Nat) i => impl_FromCovers.l1 k (n : Int) i (cast st)) (fun i st => (cast (foldFrom (fun st i => (items (st.getD i 0)).foldl (stepI i) st) i n st), true)) n (fun _ st => Bnd n st) ?_ ?_
  · intro st _
    rw [foldFrom_end]
    exact ev_step (Ev.now _) (fun k => by simp only [impl_FromCovers.l1]; rw [if_neg (by omega)])
  · intro i st hi hb ih
    have c1 : (i : Int) < (n : Int) := by omega
    have c2 : 0 ≤ (i : Int) := by omega
    have c3 : (i : Int) < ((cast st).length : Int) := by rw [castL, hb.1]; omega
    have hil : (items (st.getD i 0)).length ≤ 10 := by unfold items; exact Nat.le_trans (List.length_filter_le _ _) (by simp)
    rw [foldFrom_step _ hi]
    have h0 := implFC_l2 h1 hn hR1 hi (items (st.getD i 0)) (items_lt (hb.2 i)) hil (fun st => (cast (foldFrom (fun st i => (items (st.getD i 0)).foldl (stepI i) st) (i + 1) n st), true)) (fun st hb => ih st hb) 0 st (by omega) hb
    refine ev_stepb (items_ev (p63 (hb.2 i) (by omega))) ?_ (fun k => by simp only [impl_FromCovers.l1]; rw [if_pos c1, if_pos c2, if_pos c3, rd_cast])
    exact h0
theorem implFC_l0 (fin : List Nat → List Int × Bool) (hnext : ∀ st, Bnd n st → Ev (fun k => impl_FromCovers.l1 k (n : Int) 0 (cast st)) (fin st)) : ∀ (S pre : List (List Int)) (st : List Nat), pre ++ S = R → Bnd n st →
    ((∀ o ∈ S, okP (n : Int) o = true) → Ev (fun k => impl_FromCovers.l0 k (n : Int) R (R.length : Int) (pre.length : Int) (cast st)) (fin (S.foldl stepD st))) ∧ ((∃ o ∈ S, okP (n : Int) o = false) → Ev (fun k => impl_FromCovers.l0 k (n : Int) R (R.length : Int) (pre.length : Int) (cast st)) ([], false)) := by
  intro S
  induction S with
  | nil =>
    intro pre st h hb
    rw [List.append_nil] at h
    refine ⟨fun _ => ev_step (hnext st hb) (fun k => by simp only [impl_FromCovers.l0]; rw [if_neg (by rw [← h]; omega)]), fun ⟨o, ho, _⟩ => by cases ho⟩
  | cons o S ihS =>
    intro pre st h hb
    have hl : R.length = pre.length + (S.length + 1) := by rw [← h, List.length_append, List.length_cons]
    have c1 : (pre.length : Int) < (R.length : Int) := by omega
    have c0 : 0 ≤ (pre.length : Int) := by omega
    have hw : wrap64 ((pre.length : Int) + 1) = (pre.length : Int) + 1 := wrap64_id (by omega) (by omega)
    have hw2 : wrap64 ((n : Int) - 1) = (n : Int) - 1 := wrap64_id (by omega) (by omega)
    have hr : rd_L1 R (pre.length : Int) = o := by rw [← h]; exact rdL_at pre o S
    by_cases hl2 : o.length = 2
    · have hl3 : (o.length : Int) = 2 := by omega
      have c2 : 1 < (o.length : Int) := by omega
      have c3 : 0 < (o.length : Int) := by omega
      by_cases hy : 0 ≤ rd o 1 ∧ rd o 1 ≤ (n : Int) - 1
      · have hw3 : wrap64 (rd o 1 - 1) = rd o 1 - 1 := wrap64_id (by omega) (by omega)
        by_cases hx : 0 ≤ rd o 0 ∧ rd o 0 ≤ rd o 1 - 1
        · have hok : okP (n : Int) o = true := by unfold okP; rw [decide_eq_true hl2, Bool.true_and, decide_eq_true_eq]; omega
          obtain ⟨g1, g2, g3, g4, g5⟩ := okP_nat hok
          have c4 : 0 ≤ ((pi' o : Nat) : Int) := by omega
          have c5 : ((pi' o : Nat) : Int) < ((cast st).length : Int) := by rw [castL, hb.1]; omega
          have c6 : 0 ≤ ((pj o : Nat) : Int) := by omega
          have b2 : (2 : Nat) ^ pj o < 2 ^ 63 := two_pow_lt63 (by omega)
          have b4 := or_nat (p63 (hb.2 (pi' o)) (by omega)) b2
          have hsh := shl_one (i := pj o) (by omega)
          obtain ⟨i1, i2⟩ := ihS (pre ++ [o]) (stepD st o) (by rw [List.append_assoc]; exact h) (stepD_bnd hb hok)
          rw [List.length_append, List.length_singleton, Int.natCast_add, show ((1 : Nat) : Int) = 1 from rfl] at i1 i2
          have go : ∀ r, Ev (fun k => impl_FromCovers.l0 k (n : Int) R (R.length : Int) ((pre.length : Int) + 1) (cast (stepD st o))) r → Ev (fun k => impl_FromCovers.l0 k (n : Int) R (R.length : Int) (pre.length : Int) (cast st)) r := fun r hr' =>
            ev_step hr' (fun k => by
              simp only [impl_FromCovers.l0]
              rw [if_pos c1, if_pos c0, if_pos c1, hr, if_pos hl3, if_pos c2, within_is, hw2, decide_eq_true hy, Option.bind_some, if_pos rfl, if_pos c3, within_is, hw3, decide_eq_true hx, Option.bind_some, if_pos rfl, g3, if_pos c4, if_pos c5, g2, if_pos c6, rd_cast, hsh, b4, Int.toNat_natCast, cast_set, hw]
              rfl)
          refine ⟨fun ha => go _ (i1 (fun o ho => ha o (List.mem_cons_of_mem _ ho))), fun ⟨x, hx', hb'⟩ => go _ (i2 ?_)⟩
          rcases List.mem_cons.1 hx' with rfl | hx'
          · rw [hok] at hb'; cases hb'
          · exact ⟨x, hx', hb'⟩
        · have hok : okP (n : Int) o = false := by unfold okP; rw [decide_eq_true hl2, Bool.true_and, decide_eq_false_iff_not]; omega
          refine ⟨fun ha => (by have := ha o List.mem_cons_self; rw [hok] at this; cases this), fun _ => ?_⟩
          exact ev_step (Ev.now _) (fun k => by simp only [impl_FromCovers.l0]; rw [if_pos c1, if_pos c0, if_pos c1, hr, if_pos hl3, if_pos c2, within_is, hw2, decide_eq_true hy, Option.bind_some, if_pos rfl, if_pos c3, within_is, hw3, decide_eq_false hx, Option.bind_some, if_neg (by decide)])
      · have hok : okP (n : Int) o = false := by unfold okP; rw [decide_eq_true hl2, Bool.true_and, decide_eq_false_iff_not]; omega
        refine ⟨fun ha => (by have := ha o List.mem_cons_self; rw [hok] at this; cases this), fun _ => ?_⟩
        exact ev_step (Ev.now _) (fun k => by simp only [impl_FromCovers.l0]; rw [if_pos c1, if_pos c0, if_pos c1, hr, if_pos hl3, if_pos c2, within_is, hw2, decide_eq_false hy, Option.bind_some, if_neg (by decide)])
    · have hok : okP (n : Int) o = false := by unfold okP; rw [decide_eq_false hl2, Bool.false_and]
      have hl3 : ¬ (o.length : Int) = 2 := by omega
      refine ⟨fun ha => (by have := ha o List.mem_cons_self; rw [hok] at this; cases this), fun _ => ?_⟩
      exact ev_step (Ev.now _) (fun k => by simp only [impl_FromCovers.l0]; rw [if_pos c1, if_pos c0, if_pos c1, hr, if_neg hl3])
end
end Go.Proofs.Ytkikpkfambagnaa.B

/-! ### Lrows -/
/- Rows of rows that come in: their size, their copy. -/
namespace Go.Proofs.Ytkikpkfambagnaa.B
open Go.RowKit Go.Proofs.Ytkikpkfambagnaa.M Go.Proofs.YtkikpkfambagnaaW.PrintWords Go.Proofs.YtkikpkfambagnaaW.PrintLast Go.Proofs.YtkikpkfambagnaaW.PrintMore
attribute [local irreducible] Go.bits shl shr sd
def szL : Int → List (List Int) → Int
  | left, [] => left
  | left, o :: t => if (o.length : Int) ≤ left then szL (left - (o.length : Int)) t else -1
def szv (R : List (List Int)) : Int := if (R.length : Int) ≤ 1048576 then szL (1048576 - (R.length : Int)) R else -1
theorem szL_tot : ∀ (S : List (List Int)) (left : Int), 0 ≤ szL left S → (tot S : Int) ≤ left
  | [], left, h => by unfold szL at h; simpa [tot] using h
  | o :: t, left, h => by
    unfold szL at h
    rw [tot_cons, Int.natCast_add]
    by_cases hc : (o.length : Int) ≤ left
    · rw [if_pos hc] at h
      have := szL_tot t _ h
      omega
    · rw [if_neg hc] at h
      omega
theorem szIntS_is (o : List Int) (ho : o.length ≤ 9223372036854775807) (left : Int) (h0 : 0 ≤ left) (h1 : left ≤ 1048576) : laws_szIntS.f o left = some (if (o.length : Int) ≤ left then left - (o.length : Int) else -1) := by
  unfold laws_szIntS.f
  rw [wrap64_id (by omega) (by omega)]
  by_cases h : (o.length : Int) ≤ left
  · rw [if_neg (by omega), if_pos h]
  · rw [if_pos (by omega), if_neg h]
theorem szIntSS_l0 {R : List (List Int)} (hR1 : R.length ≤ 1048576) (hR : ∀ o ∈ R, o.length ≤ 9223372036854775807) : ∀ (S pre : List (List Int)) (left : Int), pre ++ S = R → 0 ≤ left → left ≤ 1048576 → Ev (fun k => laws_szIntSS.l0 k R left (pre.length : Int)) (szL left S) := by
  intro S
  induction S with
  | nil =>
    intro pre left h _ _
    rw [List.append_nil] at h
    subst h
    exact ev_step (Ev.now _) (fun k => by simp only [laws_szIntSS.l0]; rw [if_neg (by omega)]; rfl)
  | cons o S ih =>
    intro pre left h h0 h1
    have hl : R.length = pre.length + (S.length + 1) := by rw [← h, List.length_append, List.length_cons]
    have c1 : (pre.length : Int) < (R.length : Int) := by omega
    have c0 : 0 ≤ (pre.length : Int) := by omega
    have hr : rd_L1 R (pre.length : Int) = o := by rw [← h]; exact rdL_at pre o S
    have hs := szIntS_is o (hR o (by rw [← h]; simp)) left h0 h1
    have hw : wrap64 ((pre.length : Int) + 1) = (pre.length : Int) + 1 := wrap64_id (by omega) (by omega)
    unfold szL
    by_cases hc : (o.length : Int) ≤ left
    · rw [if_pos hc] at hs ⊢
      have h2 := ih (pre ++ [o]) (left - (o.length : Int)) (by rw [List.append_assoc]; exact h) (by omega) (by omega)
      rw [List.length_append, List.length_singleton, Int.natCast_add, show ((1 : Nat) : Int) = 1 from rfl] at h2
      exact ev_step h2 (fun k => by simp only [laws_szIntSS.l0]; rw [if_pos c1, if_pos c0, hr, hs, Option.bind_some, if_neg (by omega), hw])
    · rw [if_neg hc] at hs ⊢
      exact ev_step (Ev.now _) (fun k => by simp only [laws_szIntSS.l0]; rw [if_pos c1, if_pos c0, hr, hs, Option.bind_some, if_pos (by decide)])
theorem szIntSS_ev {R : List (List Int)} (hm : R.length ≤ 9223372036854775807) (hR : ∀ o ∈ R, o.length ≤ 9223372036854775807) : Ev (fun k => laws_szIntSS.f k R 1048576) (szv R) := by
  unfold laws_szIntSS.f szv
  have hw : wrap64 (1048576 - (R.length : Int)) = 1048576 - (R.length : Int) := wrap64_id (by omega) (by omega)
  by_cases h : (R.length : Int) ≤ 1048576
  · rw [if_pos h]
    exact ev_as (szIntSS_l0 (by omega) hR R [] (1048576 - (R.length : Int)) rfl (by omega) (by omega)) (fun k => by rw [hw, if_neg (by omega)]; rfl)
  · rw [if_neg h]
    exact ev_as (Ev.now _) (fun k => by rw [hw, if_pos (by omega)])
theorem szv_bounds {R : List (List Int)} (h : 0 ≤ szv R) : R.length ≤ 1048576 ∧ tot R ≤ 1048576 := by
  unfold szv at h
  by_cases hc : (R.length : Int) ≤ 1048576
  · rw [if_pos hc] at h
    have := szL_tot R _ h
    omega
  · rw [if_neg hc] at h
    omega
theorem toIntSS_l0 {R : List (List Int)} (hR1 : R.length ≤ 1048576) (hT : tot R ≤ 1048576) : ∀ (S pre : List (List Int)), pre ++ S = R → Ev (fun k => laws_toIntSS.l0 k R (pre ++ List.replicate S.length []) (pre.length : Int)) R := by
  intro S
  induction S with
  | nil =>
    intro pre h
    rw [List.append_nil] at h
    subst h
    exact ev_step (Ev.now _) (fun k => by simp only [laws_toIntSS.l0]; rw [if_neg (by omega)]; simp)
  | cons o S ih =>
    intro pre h
    have hl : R.length = pre.length + (S.length + 1) := by rw [← h, List.length_append, List.length_cons]
    have ho : o.length ≤ tot R := mem_tot (by rw [← h]; simp)
    have c1 : (pre.length : Int) < (R.length : Int) := by omega
    have c0 : 0 ≤ (pre.length : Int) := by omega
    have c2 : (pre.length : Int) < ((pre ++ List.replicate (o :: S).length ([] : List Int)).length : Int) := by rw [List.length_append, List.length_replicate, List.length_cons]; omega
    have hr : rd_L1 R (pre.length : Int) = o := by rw [← h]; exact rdL_at pre o S
    have hw : wrap64 ((pre.length : Int) + 1) = (pre.length : Int) + 1 := wrap64_id (by omega) (by omega)
    have hset : (pre ++ List.replicate (o :: S).length ([] : List Int)).set pre.length o = (pre ++ [o]) ++ List.replicate S.length [] := by
      rw [List.length_cons, List.replicate_succ]
      exact set_at pre [] o _
    have h2 := ih (pre ++ [o]) (by rw [List.append_assoc]; exact h)
    rw [List.length_append, List.length_singleton, Int.natCast_add, show ((1 : Nat) : Int) = 1 from rfl] at h2
    refine ev_stepb (toIntS_ev o (by omega)) ?_ (fun k => by simp only [laws_toIntSS.l0]; rw [if_pos c1, if_pos c0, hr])
    exact ev_as h2 (fun k => by rw [if_pos c2, Int.toNat_natCast, hset, hw])
theorem toIntSS_ev {R : List (List Int)} (hR1 : R.length ≤ 1048576) (hT : tot R ≤ 1048576) : Ev (fun k => laws_toIntSS.f k R) R := by
  unfold laws_toIntSS.f
  exact ev_as (toIntSS_l0 hR1 hT R [] rfl) (fun k => by rw [if_pos (by omega), if_pos (by omega), Int.toNat_natCast]; rfl)
end Go.Proofs.Ytkikpkfambagnaa.B

/-! ### Lh -/
/- Marks of a poset, found again. -/
namespace Go.Proofs.Ytkikpkfambagnaa.B
open Go.RowKit Go.Proofs.Ytkikpkfambagnaa.M Go.Proofs.YtkikpkfambagnaaW.PrintWords Go.Proofs.YtkikpkfambagnaaW.PrintLast Go.Proofs.YtkikpkfambagnaaW.PrintMore
attribute [local irreducible] Go.bits shl shr sd
theorem heldPoset_ev (l : List Int) (k0 : Int) (hl : l.length ≤ 35184372088832) (h0 : 0 ≤ k0) (h1 : k0 ≤ 35184372088832) : Ev (fun k => laws_heldPoset.f k (marked l k0) k0) (k0 + (l.length : Int)) := by
  unfold laws_heldPoset.f
  exact Ev.bind (heldIntS_ev l k0 hl h0 h1) (ev_as (Ev.now _) (fun k => by rw [if_neg (by omega)]))
end Go.Proofs.Ytkikpkfambagnaa.B

/-! ### PureFnExactFromCovers -/
/- The plain law of FromCovers: the two printed functions answer alike. -/
namespace Go.Proofs.Ytkikpkfambagnaa.B
open Go.RowKit Go.Proofs.Ytkikpkfambagnaa.M Go.Proofs.YtkikpkfambagnaaW.PrintWords Go.Proofs.YtkikpkfambagnaaW.PrintLast Go.Proofs.YtkikpkfambagnaaW.PrintMore
attribute [local irreducible] Go.bits shl shr sd
theorem both_FromCovers (a : Int) (R : List (List Int)) : ∃ w z, w.length ≤ 10 ∧ Ev (fun k => spec_FromCovers.f k a R) (w, z) ∧ Ev (fun k => impl_FromCovers.f k a R) (w, z) := by
  have s1 : Ev (fun k => spec_FromCovers.j0 k a R true) ([], false) := ev_step (Ev.now _) (fun k => by simp only [spec_FromCovers.j0]; rw [if_pos trivial])
  have s2 : Ev (fun k => impl_FromCovers.j0 k a R true) ([], false) := ev_step (Ev.now _) (fun k => by simp only [impl_FromCovers.j0]; rw [if_pos trivial])
  unfold spec_FromCovers.f impl_FromCovers.f
  by_cases ha : 1 ≤ a ∧ a ≤ 10
  · by_cases hl : (R.length : Int) > 100
    · exact ⟨[], false, by simp, ev_as s1 (fun k => by rw [l1In_is, decide_eq_true ha, Option.bind_some, if_pos rfl, decide_eq_true hl]), ev_as s2 (fun k => by rw [within_is, decide_eq_true ha, Option.bind_some, if_pos rfl, decide_eq_true hl])⟩
    · obtain ⟨n, rfl⟩ : ∃ n : Nat, a = (n : Int) := ⟨a.toNat, by omega⟩
      have h1 : 1 ≤ n := by omega
      have hn : n ≤ 10 := by omega
      have hR1 : R.length ≤ 100 := by omega
      have hz : List.replicate ((n : Int)).toNat (0 : Int) = cast (List.replicate n 0) := by unfold cast; rw [Int.toNat_natCast, List.map_replicate]; rfl
      have goI : ∀ r, Ev (fun k => impl_FromCovers.l0 k (n : Int) R (R.length : Int) (([] : List (List Int)).length : Int) (cast (List.replicate n 0))) r → Ev (fun k => (impl_within.f (n : Int) 1 10).bind fun t => if t = true then impl_FromCovers.j0 k (n : Int) R (decide ((R.length : Int) > 100)) else impl_FromCovers.j0 k (n : Int) R true) r := fun r h => by
        refine ev_as (ev_step (g := fun k => impl_FromCovers.j0 k (n : Int) R false) h (fun k => ?_)) (fun k => by rw [within_is, decide_eq_true ha, Option.bind_some, if_pos rfl, decide_eq_false hl])
        simp only [impl_FromCovers.j0]
        rw [if_neg (by decide), if_pos (by omega), if_pos (by omega), hz]
        rfl
      have goS : ∀ r, Ev (fun k => spec_FromCovers.l0 k (n : Int) R R (R.length : Int) (([] : List (List Int)).length : Int)) r → Ev (fun k => (spec_l1In.f (n : Int) 1 10).bind fun t => if t = true then spec_FromCovers.j0 k (n : Int) R (decide ((R.length : Int) > 100)) else spec_FromCovers.j0 k (n : Int) R true) r := fun r h => by
        refine ev_as (ev_step (g := fun k => spec_FromCovers.j0 k (n : Int) R false) h (fun k => ?_)) (fun k => by rw [l1In_is, decide_eq_true ha, Option.bind_some, if_pos rfl, decide_eq_false hl])
        simp only [spec_FromCovers.j0]
        rw [if_neg (by decide)]
        rfl
      by_cases hall : ∀ o ∈ R, okP (n : Int) o = true
      · have hlen : (specR R n).length = n := (specR_told hall).1
        have k1 := implFC_l0 h1 hn hR1 (fun st => (cast (implR n st), true)) (fun st hb => implFC_l1 h1 hn hR1 0 st (by omega) hb) R [] (List.replicate n 0) rfl (bnd_zero n)
        have k2 := k1.1 hall
        rw [both_from hn hall] at k2
        have k3 := (specFC_l0 h1 hn hR1 (cast (specR R n), true) (Ev.bind (poFrom_ev h1 hn hR1 hall) (Ev.now _)) R [] rfl (.inl hall)).1 hall
        exact ⟨cast (specR R n), true, by rw [castL, hlen]; exact hn, goS _ k3, goI _ k2⟩
      · have hex : ∃ o ∈ R, okP (n : Int) o = false := by
          apply Classical.byContradiction
          intro hno
          apply hall
          intro o ho
          cases hb : okP (n : Int) o with
          | true => rfl
          | false => exact absurd ⟨o, ho, hb⟩ hno
        have k1 := (implFC_l0 h1 hn hR1 (fun st => (cast (implR n st), true)) (fun st hb => implFC_l1 h1 hn hR1 0 st (by omega) hb) R [] (List.replicate n 0) rfl (bnd_zero n)).2 hex
        have k3 : Ev (fun k => spec_FromCovers.l0 k (n : Int) R R (R.length : Int) (([] : List (List Int)).length : Int)) ([], false) := specFC_no h1 hn hR1 R [] rfl hex
        exact ⟨[], false, by simp, goS _ k3, goI _ k1⟩
  · exact ⟨[], false, by simp, ev_as s1 (fun k => by rw [l1In_is, decide_eq_false ha, Option.bind_some, if_neg (by decide)]), ev_as s2 (fun k => by rw [within_is, decide_eq_false ha, Option.bind_some, if_neg (by decide)])⟩
theorem tail_FromCovers (a : Int) (R : List (List Int)) (w : List Int) (z : Bool) (hR1 : R.length ≤ 1048576) (hT : tot R ≤ 1048576) (hw : w.length ≤ 1048576) (h2 : Ev (fun k => impl_FromCovers.f k a R) (w, z)) : Ev (fun k => laws_FnExactFromCovers.j0 k a R z R z false w w) true := by
  have e2 : Ev (fun k => laws_FnExactFromCovers.j2 k (1 + (w.length : Int)) false (marked w 1)) true := by
    refine ev_stepb (heldPoset_ev w 1 (by omega) (by omega) (by omega)) ?_ (fun k => by simp only [laws_FnExactFromCovers.j2]; rw [if_neg (by decide)])
    exact ev_as (Ev.now _) (fun k => by rw [if_neg (by omega), if_pos rfl])
  have e1 : Ev (fun k => laws_FnExactFromCovers.j1 k a R z false w w) true := by
    refine ev_stepb (markPoset_ev w 1 (by omega) (by omega) (by omega)) ?_ (fun k => by simp only [laws_FnExactFromCovers.j1]; rw [if_neg (by decide)])
    refine ev_bind (heldPoset_ev w 1 (by omega) (by omega) (by omega)) ?_ (fun k => rfl)
    refine ev_bind (toIntSS_ev hR1 hT) ?_ (fun k => by rw [if_neg (by omega), if_pos rfl])
    refine ev_bind h2 ?_ (fun k => rfl)
    refine ev_bind (eqPoset_ev w (by omega)) ?_ (fun k => rfl)
    exact ev_as e2 (fun k => by rw [if_pos rfl, bne_self_eq_false])
  refine ev_stepb (toIntSS_ev hR1 hT) ?_ (fun k => by simp only [laws_FnExactFromCovers.j0]; rw [if_neg (by decide)])
  refine ev_bind (eqIntSS_ev R (by omega) (by omega)) ?_ (fun k => rfl)
  refine ev_bind (markIntSS_ev R (by omega) (by omega)) ?_ (fun k => by rw [if_pos rfl])
  refine ev_bind (eqPoset_ev w (by omega)) ?_ (fun k => by rw [if_neg (by omega)])
  exact ev_as e1 (fun k => by rw [if_pos rfl, bne_self_eq_false])
theorem FnExactFromCovers (a : Int) (R : List (List Int)) (_ : (Lit.int .i64 a).wf = true) (hm : R.length ≤ 9223372036854775807) (hR : ∀ o ∈ R, o.length ≤ 9223372036854775807) : ∃ k, laws_FnExactFromCovers.f k a R = some true := by
  apply Ev.rounds
  unfold laws_FnExactFromCovers.f
  refine Ev.bind (szIntSS_ev hm hR) ?_
  by_cases hs : szv R < 0
  · exact ev_as (Ev.now _) (fun k => by rw [if_pos hs])
  · obtain ⟨hR1, hT⟩ := szv_bounds (R := R) (by omega)
    obtain ⟨w, z, hw, h1, h2⟩ := both_FromCovers a R
    refine ev_bind (toIntSS_ev hR1 hT) ?_ (fun k => by rw [if_neg hs])
    refine Ev.bind h1 ?_
    refine Ev.bind (toIntSS_ev hR1 hT) ?_
    refine Ev.bind h2 ?_
    refine Ev.bind (eqPoset_ev w (by omega)) ?_
    exact ev_as (tail_FromCovers a R w z hR1 hT (by omega) h2) (fun k => by rw [if_pos rfl, bne_self_eq_false])
end Go.Proofs.Ytkikpkfambagnaa.B
