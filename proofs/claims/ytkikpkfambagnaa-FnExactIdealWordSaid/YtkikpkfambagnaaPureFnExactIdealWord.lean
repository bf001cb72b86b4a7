import Derived.Test.YtkikpkfambagnaaWWords
import Derived.Test.YtkikpkfambagnaaWMore
import Derived.Laws.BitsLemmas
import Derived.Test.YtkikpkfambagnaaB1
import Derived.Test.YtkikpkfambagnaaB14
import Derived.Test.YtkikpkfambagnaaB15
import Derived.Test.YtkikpkfambagnaaB16
import Derived.Test.YtkikpkfambagnaaB17
import Derived.Test.YtkikpkfambagnaaB2
import Derived.Test.YtkikpkfambagnaaB5
/-! ### M -/
/- Plain laws on whole numbers, bits and lists, with no program in sight: what the proofs over the printed functions rest on. -/
namespace Go.Proofs.Ytkikpkfambagnaa.M
open Go.RowKit Go.Proofs.YtkikpkfambagnaaW.PrintWords Go.Proofs.YtkikpkfambagnaaW.PrintLast Go.Proofs.YtkikpkfambagnaaW.PrintMore

/-! ### rounds -/
theorem ev_now {α : Type} (r : α) : Ev (fun _ => some r) r := Ev.now r
theorem ev_const {α : Type} {g : Option α} {r : α} (h : g = some r) : Ev (fun _ => g) r := ⟨0, fun _ _ => h⟩
theorem ev_eq {α : Type} {g : Nat → Option α} {r r' : α} (h : Ev g r) (e : r = r') : Ev g r' := e ▸ h
theorem ev_unique {α : Type} {g : Nat → Option α} {r r' : α} (h : Ev g r) (h' : Ev g r') : r = r' := by
  obtain ⟨K, h⟩ := h
  obtain ⟨K', h'⟩ := h'
  have h1 := h (max K K') (by omega)
  have h2 := h' (max K K') (by omega)
  rw [h1] at h2
  exact Option.some.inj h2
/-- One round of a loop: what follows is told first. -/
theorem ev_step {α : Type} {g f : Nat → Option α} {r : α} (k : Ev f r) (h : ∀ k, g (k + 1) = f k) : Ev g r := Ev.step h k
theorem ev_as {α : Type} {g f : Nat → Option α} {r : α} (k : Ev f r) (h : ∀ k, g k = f k) : Ev g r := Ev.congr h k
theorem ev_bind {α β : Type} {A : Nat → Option α} {F : Nat → α → Option β} {g : Nat → Option β} {a : α} {r : β} (ha : Ev A a) (hb : Ev (fun n => F n a) r) (h : ∀ k, g k = (A k).bind (F k)) : Ev g r := Ev.congr h (Ev.bind ha hb)
theorem ev_stepb {α β : Type} {A : Nat → Option α} {F : Nat → α → Option β} {g : Nat → Option β} {a : α} {r : β} (ha : Ev A a) (hb : Ev (fun n => F n a) r) (h : ∀ k, g (k + 1) = (A k).bind (F k)) : Ev g r := Ev.step h (Ev.bind ha hb)
/-- A loop over places, told backwards: what holds from each place on. -/
theorem ev_down {σ β : Type} (g : Nat → σ → Int → Option β) (R : Nat → σ → β) (n : Nat) (Inv : Nat → σ → Prop)
    (hn : ∀ st, Inv n st → Ev (fun k => g k st (n : Int)) (R n st))
    (hs : ∀ (i : Nat) st, i < n → Inv i st → (∀ st', Inv (i + 1) st' → Ev (fun k => g k st' ((i : Int) + 1)) (R (i + 1) st')) → Ev (fun k => g k st (i : Int)) (R i st)) :
    ∀ (i : Nat) st, i ≤ n → Inv i st → Ev (fun k => g k st (i : Int)) (R i st) := by
  have H : ∀ d i st, n - i = d → i ≤ n → Inv i st → Ev (fun k => g k st (i : Int)) (R i st) := by
    intro d
    induction d with
    | zero =>
      intro i st hd hi hI
      obtain rfl : i = n := by omega
      exact hn st hI
    | succ d ih =>
      intro i st hd hi hI
      refine hs i st (by omega) hI (fun st' hI' => ?_)
      have := ih (i + 1) st' (by omega) (by omega) hI'
      rwa [show (((i + 1 : Nat)) : Int) = (i : Int) + 1 by omega] at this
  exact fun i st hi hI => H (n - i) i st rfl hi hI

/-! ### numbers -/
theorem wrap64_id {x : Int} (h1 : -9223372036854775808 ≤ x) (h2 : x ≤ 9223372036854775807) : wrap64 x = x := by unfold wrap64; omega
theorem rd_nat (l : List Int) (i : Nat) : rd l (i : Int) = l.getD i 0 := by unfold rd; rw [Int.toNat_natCast]
theorem rd_cast (l : List Nat) (i : Nat) : rd (l.map (fun x : Nat => (x : Int))) (i : Int) = ((l.getD i 0 : Nat) : Int) := by
  rw [rd_nat]
  simp only [List.getD_eq_getElem?_getD, List.getElem?_map]
  cases l[i]? <;> simp

/-! ### bits of small natural numbers -/
theorem w63 (n : Int) (h0 : 0 ≤ n) (h1 : n < 2 ^ 63) : IntKind.i64.wrap n = n := by rw [IntKind.wrap_i64]; omega
theorem and_nat {a b : Nat} (ha : a < 2 ^ 63) (hb : b < 2 ^ 63) : Go.bits .and .i64 (a : Int) (b : Int) = ((a &&& b : Nat) : Int) := (bits_nat .i64 63 (by decide) w63 a b ha hb).1
theorem or_nat {a b : Nat} (ha : a < 2 ^ 63) (hb : b < 2 ^ 63) : Go.bits .or .i64 (a : Int) (b : Int) = ((a ||| b : Nat) : Int) := (bits_nat .i64 63 (by decide) w63 a b ha hb).2
/-- What a set has beyond another. -/
def sd (a b : Nat) : Nat := a ^^^ (a &&& b)
theorem sd_bit (a b i : Nat) : (sd a b).testBit i = (a.testBit i && !b.testBit i) := by
  unfold sd
  rw [Nat.testBit_xor, Nat.testBit_and]
  cases a.testBit i <;> cases b.testBit i <;> rfl
theorem sd_lt {a b n : Nat} (ha : a < 2 ^ n) : sd a b < 2 ^ n := Nat.xor_lt_two_pow ha (Nat.lt_of_le_of_lt Nat.and_le_left ha)
theorem andNot_nat {a b : Nat} (ha : a < 2 ^ 63) (hb : b < 2 ^ 63) : Go.bits .andNot .i64 (a : Int) (b : Int) = ((sd a b : Nat) : Int) := by
  have h1 : (BitVec.ofInt 64 (a : Int) &&& ~~~ BitVec.ofInt 64 (b : Int)).toNat = sd a b := by
    apply Nat.eq_of_testBit_eq
    intro i
    rw [BitVec.testBit_toNat, sd_bit, BitVec.getLsbD_and, BitVec.getLsbD_not, ← BitVec.testBit_toNat, ← BitVec.testBit_toNat, BitVec.ofInt_natCast, BitVec.ofInt_natCast, BitVec.toNat_ofNat, BitVec.toNat_ofNat,
      Nat.mod_eq_of_lt (by omega : a < 2 ^ 64), Nat.mod_eq_of_lt (by omega : b < 2 ^ 64)]
    by_cases hi : i < 64
    · simp [hi]
    · have : a.testBit i = false := Nat.testBit_lt_two_pow (Nat.lt_of_lt_of_le (by omega : a < 2 ^ 64) (Nat.pow_le_pow_right (by decide) (by omega)))
      simp [this]
  show IntKind.i64.wrap ((BitVec.ofInt 64 (a : Int) &&& ~~~ BitVec.ofInt 64 (b : Int)).toNat : Int) = _
  rw [h1]
  have := sd_lt (b := b) ha
  exact w63 _ (by omega) (by exact_mod_cast this)
theorem xor_nat {a b : Nat} (ha : a < 2 ^ 63) (hb : b < 2 ^ 63) : Go.bits .xor .i64 (a : Int) (b : Int) = ((a ^^^ b : Nat) : Int) := by
  have h1 : (BitVec.ofInt 64 (a : Int) ^^^ BitVec.ofInt 64 (b : Int)).toNat = a ^^^ b := by
    rw [BitVec.toNat_xor, BitVec.ofInt_natCast, BitVec.ofInt_natCast, BitVec.toNat_ofNat, BitVec.toNat_ofNat, Nat.mod_eq_of_lt (by omega : a < 2 ^ 64), Nat.mod_eq_of_lt (by omega : b < 2 ^ 64)]
  show IntKind.i64.wrap ((BitVec.ofInt 64 (a : Int) ^^^ BitVec.ofInt 64 (b : Int)).toNat : Int) = _
  rw [h1]
  have := Nat.xor_lt_two_pow ha hb
  exact w63 _ (by omega) (by exact_mod_cast this)
theorem shl_one {i : Nat} (hi : i < 63) : shl .i64 1 (i : Int) = ((2 ^ i : Nat) : Int) := by
  unfold shl
  rw [Int.toNat_natCast, show IntKind.i64.bits = 64 from rfl, Nat.min_eq_left (by omega), Int.one_mul]
  have h : (2 : Nat) ^ i < 2 ^ 63 := Nat.pow_lt_pow_right (by decide) hi
  rw [w63 _ (Int.pow_nonneg (by decide)) (by exact_mod_cast h)]
  simp
theorem shr_nat {s i : Nat} (hi : i ≤ 64) : shr .i64 (s : Int) (i : Int) = ((s / 2 ^ i : Nat) : Int) := by
  unfold shr
  rw [Int.toNat_natCast, show IntKind.i64.bits = 64 from rfl, Nat.min_eq_left hi]
  simp
theorem bit_div (s i : Nat) : s.testBit i = decide (s / 2 ^ i % 2 = 1) := by
  rw [Nat.testBit_eq_decide_div_mod_eq]
theorem bit_tmod {s i : Nat} (hi : i ≤ 64) : (Int.tmod (shr .i64 (s : Int) (i : Int)) 2 = 1) ↔ s.testBit i = true := by
  rw [shr_nat hi, bit_div, decide_eq_true_eq, Int.tmod_eq_emod_of_nonneg (Int.natCast_nonneg _)]
  generalize s / 2 ^ i = q
  omega
theorem bit_and1 {s i : Nat} (hs : s < 2 ^ 63) (hi : i ≤ 64) : (Go.bits .and .i64 (shr .i64 (s : Int) (i : Int)) 1 = 1) ↔ s.testBit i = true := by
  have h2 : s / 2 ^ i < 2 ^ 63 := Nat.lt_of_le_of_lt (Nat.div_le_self _ _) hs
  rw [shr_nat hi, show (1 : Int) = ((1 : Nat) : Int) from rfl, and_nat h2 (by decide), bit_div, decide_eq_true_eq, Nat.and_one_is_mod]
  omega
theorem two_pow_le {i j : Nat} (h : i ≤ j) : (2 : Nat) ^ i ≤ 2 ^ j := Nat.pow_le_pow_right (by decide) h
theorem two_pow_lt63 {i : Nat} (h : i < 63) : (2 : Nat) ^ i < 2 ^ 63 := Nat.pow_lt_pow_right (by decide) h
theorem mask_sub {i : Nat} (hi : i < 63) : wrap64 (shl .i64 1 (i : Int) - 1) = ((2 ^ i - 1 : Nat) : Int) := by
  rw [shl_one hi]
  have h := two_pow_lt63 hi
  have h1 : 1 ≤ 2 ^ i := Nat.one_le_two_pow
  unfold wrap64
  omega

/-! ### folds from a place on -/
def foldFrom {σ : Type} (f : σ → Nat → σ) (i n : Nat) (st : σ) : σ := (List.range' i (n - i)).foldl f st
theorem foldFrom_end {σ : Type} (f : σ → Nat → σ) (n : Nat) (st : σ) : foldFrom f n n st = st := by unfold foldFrom; simp
theorem foldFrom_step {σ : Type} (f : σ → Nat → σ) {i n : Nat} (h : i < n) (st : σ) : foldFrom f i n st = foldFrom f (i + 1) n (f st i) := by
  unfold foldFrom
  obtain ⟨d, hd⟩ : ∃ d, n - i = d + 1 := ⟨n - i - 1, by omega⟩
  rw [hd, show n - (i + 1) = d by omega, List.range'_succ, List.foldl_cons]
def allFrom (f : Nat → Bool) (i n : Nat) : Bool := (List.range' i (n - i)).all f
theorem allFrom_end (f : Nat → Bool) (n : Nat) : allFrom f n n = true := by unfold allFrom; simp
theorem allFrom_step (f : Nat → Bool) {i n : Nat} (h : i < n) : allFrom f i n = (f i && allFrom f (i + 1) n) := by
  unfold allFrom
  obtain ⟨d, hd⟩ : ∃ d, n - i = d + 1 := ⟨n - i - 1, by omega⟩
  rw [hd, show n - (i + 1) = d by omega, List.range'_succ, List.all_cons]
theorem allFrom_iff (f : Nat → Bool) (i n : Nat) : allFrom f i n = true ↔ ∀ j, i ≤ j → j < n → f j = true := by
  unfold allFrom
  rw [List.all_eq_true]
  constructor
  · intro h j h1 h2
    exact h j (by rw [List.mem_range'_1]; omega)
  · intro h j hj
    rw [List.mem_range'_1] at hj
    exact h j (by omega) (by omega)
theorem drop_step {α : Type} (xs : List α) (d : α) {i : Nat} (h : i < xs.length) : xs.drop i = xs.getD i d :: xs.drop (i + 1) := by
  rw [List.drop_eq_getElem_cons h]
  congr 1
  rw [List.getD_eq_getElem?_getD, List.getElem?_eq_getElem h, Option.getD_some]

theorem getD_memN {o : List Nat} {i : Nat} (h : i < o.length) : o.getD i 0 ∈ o := by
  rw [List.getD_eq_getElem?_getD, List.getElem?_eq_getElem h, Option.getD_some]; exact List.getElem_mem h
/-! ### sets of elements below 10 -/
def items (s : Nat) : List Nat := (List.range 10).filter (fun e => s.testBit e)
def itemsUpto (s e : Nat) : List Nat := (List.range e).filter (fun e => s.testBit e)
theorem mem_items {s e : Nat} : e ∈ items s ↔ e < 10 ∧ s.testBit e = true := by
  unfold items; rw [List.mem_filter, List.mem_range]
theorem bit_lt {s n e : Nat} (hs : s < 2 ^ n) (h : s.testBit e = true) : e < n := by
  rcases Nat.lt_or_ge e n with h1 | h1
  · exact h1
  · have := Nat.testBit_lt_two_pow (Nat.lt_of_lt_of_le hs (two_pow_le h1))
    rw [this] at h; cases h
theorem filter_range_ext {s n m : Nat} (hs : s < 2 ^ n) (hm : n ≤ m) : (List.range m).filter (fun e => s.testBit e) = (List.range n).filter (fun e => s.testBit e) := by
  obtain ⟨d, rfl⟩ : ∃ d, m = n + d := ⟨m - n, by omega⟩
  induction d with
  | zero => rfl
  | succ d ih =>
    rw [← Nat.add_assoc, List.range_succ, List.filter_append, ih (by omega)]
    have : s.testBit (n + d) = false := Nat.testBit_lt_two_pow (Nat.lt_of_lt_of_le hs (two_pow_le (by omega)))
    simp [this]
theorem items_eq {s n : Nat} (hs : s < 2 ^ n) (hn : n ≤ 10) : items s = (List.range n).filter (fun e => s.testBit e) := filter_range_ext hs hn
theorem foldl_filter {α σ : Type} (p : α → Bool) (f : σ → α → σ) (l : List α) (st : σ) : (l.filter p).foldl f st = l.foldl (fun st x => if p x then f st x else st) st := by
  induction l generalizing st with
  | nil => rfl
  | cons x l ih =>
    rw [List.filter_cons]
    cases hp : p x <;> simp [hp, ih]
/-- What a fold over the elements of a set is: a fold over all places. -/
theorem fold_items {σ : Type} (f : σ → Nat → σ) {s n : Nat} (hs : s < 2 ^ n) (hn : n ≤ 10) (st : σ) : (items s).foldl f st = foldFrom (fun st e => if s.testBit e then f st e else st) 0 n st := by
  rw [items_eq hs hn, foldl_filter]
  unfold foldFrom
  rw [Nat.sub_zero, List.range_eq_range']
theorem all_filter {α : Type} (p f : α → Bool) (l : List α) : (l.filter p).all f = l.all (fun x => !p x || f x) := by
  induction l with
  | nil => rfl
  | cons x l ih =>
    rw [List.filter_cons]
    cases hp : p x <;> simp [hp, ih]
theorem all_items (f : Nat → Bool) {s n : Nat} (hs : s < 2 ^ n) (hn : n ≤ 10) : (items s).all f = allFrom (fun e => !s.testBit e || f e) 0 n := by
  rw [items_eq hs hn, all_filter]
  unfold allFrom
  rw [Nat.sub_zero, List.range_eq_range']

/-! ### sets of elements of a poset, told by their bits -/
theorem foldFrom_inv {σ : Type} (f : σ → Nat → σ) (Q : Nat → σ → Prop) (n : Nat) (hs : ∀ i st, i < n → Q i st → Q (i + 1) (f st i)) : ∀ (i : Nat) (st : σ), i ≤ n → Q i st → Q n (foldFrom f i n st) := by
  have H : ∀ d i st, n - i = d → i ≤ n → Q i st → Q n (foldFrom f i n st) := by
    intro d
    induction d with
    | zero =>
      intro i st hd hi hQ
      obtain rfl : i = n := by omega
      rw [foldFrom_end]; exact hQ
    | succ d ih =>
      intro i st hd hi hQ
      rw [foldFrom_step _ (by omega)]
      exact ih (i + 1) _ (by omega) (by omega) (hs i st (by omega) hQ)
  exact fun i st hi hQ => H (n - i) i st rfl hi hQ
/-- The least ideal with a set. -/
def dn (P : List Nat) (s : Nat) : Nat := foldFrom (fun o i => if s.testBit i then o ||| P.getD i 0 else o) 0 P.length s
/-- What is not less than another one of the set. -/
def tp (P : List Nat) (s : Nat) : Nat := foldFrom (fun o i => if s.testBit i then sd o (P.getD i 0) else o) 0 P.length s
/-- What has nothing of the set below. -/
def bm (P : List Nat) (s : Nat) : Nat := foldFrom (fun o i => if s.testBit i then (if P.getD i 0 &&& s = 0 then o ||| 2 ^ i else o) else o) 0 P.length 0
/-- Is the set an ideal? -/
def idl (P : List Nat) (s : Nat) : Bool := allFrom (fun i => !s.testBit i || decide (sd (P.getD i 0) s = 0)) 0 P.length
theorem sd_eq_zero {a b : Nat} : sd a b = 0 ↔ ∀ j, a.testBit j = true → b.testBit j = true := by
  constructor
  · intro h j hj
    have := sd_bit a b j
    rw [h, Nat.zero_testBit, hj] at this
    cases hb : b.testBit j <;> simp [hb] at this ⊢
  · intro h
    apply Nat.eq_of_testBit_eq
    intro j
    rw [sd_bit, Nat.zero_testBit]
    cases hj : a.testBit j with
    | false => rfl
    | true => rw [h j hj]; rfl
theorem and_eq_zero {a b : Nat} : a &&& b = 0 ↔ ∀ j, a.testBit j = true → b.testBit j = false := by
  constructor
  · intro h j hj
    have := Nat.testBit_and a b j
    rw [h, Nat.zero_testBit, hj, Bool.true_and] at this
    exact this.symm
  · intro h
    apply Nat.eq_of_testBit_eq
    intro j
    rw [Nat.testBit_and, Nat.zero_testBit]
    cases hj : a.testBit j with
    | false => rfl
    | true => rw [h j hj]; rfl
theorem dn_bit (P : List Nat) (s j : Nat) : (dn P s).testBit j = true ↔ s.testBit j = true ∨ ∃ i, i < P.length ∧ s.testBit i = true ∧ (P.getD i 0).testBit j = true := by
  have H := foldFrom_inv (fun o i => if s.testBit i then o ||| P.getD i 0 else o) (fun m o => o.testBit j = true ↔ s.testBit j = true ∨ ∃ i, i < m ∧ s.testBit i = true ∧ (P.getD i 0).testBit j = true) P.length ?_ 0 s (by omega) ?_
  · exact H
  · intro i o hi hQ
    cases hb : s.testBit i with
    | true =>
      rw [if_pos rfl, Nat.testBit_or, Bool.or_eq_true, hQ]
      constructor
      · rintro ((h | ⟨i', h1, h2, h3⟩) | h)
        · exact .inl h
        · exact .inr ⟨i', by omega, h2, h3⟩
        · exact .inr ⟨i, by omega, hb, h⟩
      · rintro (h | ⟨i', h1, h2, h3⟩)
        · exact .inl (.inl h)
        · rcases Nat.lt_or_ge i' i with h4 | h4
          · exact .inl (.inr ⟨i', h4, h2, h3⟩)
          · rw [show i' = i by omega] at h3; exact .inr h3
    | false =>
      rw [if_neg (by simp), hQ]
      constructor
      · rintro (h | ⟨i', h1, h2, h3⟩)
        · exact .inl h
        · exact .inr ⟨i', by omega, h2, h3⟩
      · rintro (h | ⟨i', h1, h2, h3⟩)
        · exact .inl h
        · rcases Nat.lt_or_ge i' i with h4 | h4
          · exact .inr ⟨i', h4, h2, h3⟩
          · rw [show i' = i by omega, hb] at h2; cases h2
  · constructor
    · exact .inl
    · rintro (h | ⟨i', h1, _⟩)
      · exact h
      · omega
theorem tp_bit (P : List Nat) (s j : Nat) : (tp P s).testBit j = true ↔ s.testBit j = true ∧ ∀ i, i < P.length → s.testBit i = true → (P.getD i 0).testBit j = false := by
  have H := foldFrom_inv (fun o i => if s.testBit i then sd o (P.getD i 0) else o) (fun m o => o.testBit j = true ↔ s.testBit j = true ∧ ∀ i, i < m → s.testBit i = true → (P.getD i 0).testBit j = false) P.length ?_ 0 s (by omega) ?_
  · exact H
  · intro i o hi hQ
    cases hb : s.testBit i with
    | true =>
      rw [if_pos rfl, sd_bit, Bool.and_eq_true, hQ]
      constructor
      · rintro ⟨⟨h1, h2⟩, h3⟩
        refine ⟨h1, fun i' hi' hs' => ?_⟩
        rcases Nat.lt_or_ge i' i with h4 | h4
        · exact h2 i' h4 hs'
        · rw [show i' = i by omega]; simpa using h3
      · rintro ⟨h1, h2⟩
        exact ⟨⟨h1, fun i' hi' => h2 i' (by omega)⟩, by simpa using h2 i (by omega) hb⟩
    | false =>
      rw [if_neg (by simp), hQ]
      constructor
      · rintro ⟨h1, h2⟩
        refine ⟨h1, fun i' hi' hs' => ?_⟩
        rcases Nat.lt_or_ge i' i with h4 | h4
        · exact h2 i' h4 hs'
        · rw [show i' = i by omega, hb] at hs'; cases hs'
      · rintro ⟨h1, h2⟩
        exact ⟨h1, fun i' hi' => h2 i' (by omega)⟩
  · exact ⟨fun h => ⟨h, fun i hi => absurd hi (by omega)⟩, fun h => h.1⟩
theorem bm_bit (P : List Nat) (s j : Nat) : (bm P s).testBit j = true ↔ j < P.length ∧ s.testBit j = true ∧ P.getD j 0 &&& s = 0 := by
  have H := foldFrom_inv (fun o i => if s.testBit i then (if P.getD i 0 &&& s = 0 then o ||| 2 ^ i else o) else o) (fun m o => o.testBit j = true ↔ j < m ∧ s.testBit j = true ∧ P.getD j 0 &&& s = 0) P.length ?_ 0 0 (by omega) ?_
  · exact H
  · intro i o hi hQ
    cases hb : s.testBit i with
    | true =>
      by_cases h0 : P.getD i 0 &&& s = 0
      · simp only [h0, if_true]
        rw [Nat.testBit_or, Bool.or_eq_true, hQ, Nat.testBit_two_pow, decide_eq_true_eq]
        constructor
        · rintro (⟨h1, h2⟩ | rfl)
          · exact ⟨by omega, h2⟩
          · exact ⟨by omega, hb, h0⟩
        · rintro ⟨h1, h2⟩
          rcases Nat.lt_or_ge j i with h4 | h4
          · exact .inl ⟨h4, h2⟩
          · exact .inr (by omega)
      · simp only [h0, if_true, if_false]
        rw [hQ]
        constructor
        · rintro ⟨h1, h2⟩; exact ⟨by omega, h2⟩
        · rintro ⟨h1, h2, h3⟩
          rcases Nat.lt_or_ge j i with h4 | h4
          · exact ⟨h4, h2, h3⟩
          · rw [show j = i by omega] at h3; exact absurd h3 h0
    | false =>
      simp only [Bool.false_eq_true, if_false]
      rw [hQ]
      constructor
      · rintro ⟨h1, h2⟩; exact ⟨by omega, h2⟩
      · rintro ⟨h1, h2, h3⟩
        rcases Nat.lt_or_ge j i with h4 | h4
        · exact ⟨h4, h2, h3⟩
        · rw [show j = i by omega, hb] at h2; cases h2
  · simp
theorem idl_iff (P : List Nat) (s : Nat) : idl P s = true ↔ ∀ i, i < P.length → s.testBit i = true → ∀ j, (P.getD i 0).testBit j = true → s.testBit j = true := by
  unfold idl
  rw [allFrom_iff]
  constructor
  · intro h i hi hs
    have := h i (by omega) hi
    rw [hs] at this
    simp only [Bool.not_true, Bool.false_or, decide_eq_true_eq] at this
    exact sd_eq_zero.1 this
  · intro h i _ hi
    cases hs : s.testBit i with
    | false => simp
    | true => rw [decide_eq_true (sd_eq_zero.2 (h i hi hs))]; rfl
theorem idl_dn (P : List Nat) (s : Nat) : idl P s = decide (dn P s = s) := by
  rw [Bool.eq_iff_iff, idl_iff, decide_eq_true_eq]
  constructor
  · intro h
    apply Nat.eq_of_testBit_eq
    intro j
    rw [Bool.eq_iff_iff, dn_bit]
    constructor
    · rintro (h1 | ⟨i, h1, h2, h3⟩)
      · exact h1
      · exact h i h1 h2 j h3
    · exact .inl
  · intro h i hi hs j hj
    rw [← h, dn_bit]
    exact .inr ⟨i, hi, hs, hj⟩
theorem lt_of_bits {x n : Nat} (h : ∀ j, x.testBit j = true → j < n) : x < 2 ^ n := by
  apply Nat.lt_pow_two_of_testBit
  intro i hi
  cases hb : x.testBit i with
  | false => rfl
  | true => have := h i hb; omega
end Go.Proofs.Ytkikpkfambagnaa.M

/-! ### G -/
/- What the small functions on posets answer, and which posets are good: the reference's test and the program's test are one. -/
namespace Go.Proofs.Ytkikpkfambagnaa.B
open Go.RowKit Go.Proofs.Ytkikpkfambagnaa.M Go.Proofs.YtkikpkfambagnaaW.PrintWords Go.Proofs.YtkikpkfambagnaaW.PrintLast Go.Proofs.YtkikpkfambagnaaW.PrintMore

attribute [local irreducible] Go.bits shl shr sd
/-! ### small functions -/
theorem l1In_is (a b c : Int) : spec_l1In.f a b c = some (decide (b ≤ a ∧ a ≤ c)) := by
  unfold spec_l1In.f
  by_cases h : a ≥ b
  · rw [if_pos h]; simp [show b ≤ a from h]
  · rw [if_neg h]; simp [show ¬ b ≤ a from h]
theorem within_is (a b c : Int) : impl_within.f a b c = some (decide (b ≤ a ∧ a ≤ c)) := by
  unfold impl_within.f
  by_cases h : b ≤ a
  · rw [if_pos h]; simp [h]
  · rw [if_neg h]; simp [h]
theorem has_is {s e : Nat} (hs : s < 2 ^ 63) (he : e ≤ 64) : impl_has.f (s : Int) (e : Int) = some (s.testBit e) := by
  unfold impl_has.f
  rw [if_pos (by omega)]
  congr 1
  have := bit_and1 hs he
  cases hb : s.testBit e
  · rw [hb] at this; simpa using this
  · rw [hb] at this; simpa using this
theorem items_l0 {s : Nat} (hs : s < 2 ^ 63) : ∀ (e : Nat) (_ : Unit), e ≤ 10 → True →
    Ev (fun k => impl_items.l0 k (s : Int) ((itemsUpto s e).map (fun x : Nat => (x : Int))) (e : Int)) ((items s).map (fun x : Nat => (x : Int))) := by
  have H : ∀ (e : Nat) (st : List Int), e ≤ 10 → st = (itemsUpto s e).map (fun x : Nat => (x : Int)) → Ev (fun k => impl_items.l0 k (s : Int) st (e : Int)) ((items s).map (fun x : Nat => (x : Int))) := by
    refine ev_down (fun k (st : List Int) e => impl_items.l0 k (s : Int) st e) (fun _ _ => (items s).map (fun x : Nat => (x : Int))) 10 (fun e st => st = (itemsUpto s e).map (fun x : Nat => (x : Int))) ?_ ?_
    · rintro st rfl
      exact ev_step (Ev.now _) (fun k => by simp only [impl_items.l0]; rw [if_neg (by omega)]; rfl)
    · rintro e st he rfl ih
      have hl : (itemsUpto s e).length ≤ e := by unfold itemsUpto; exact Nat.le_trans (List.length_filter_le _ _) (by simp)
      have hw : wrap64 ((e : Int) + 1) = (e : Int) + 1 := wrap64_id (by omega) (by omega)
      have hn : itemsUpto s (e + 1) = itemsUpto s e ++ (if s.testBit e then [e] else []) := by
        unfold itemsUpto
        rw [List.range_succ, List.filter_append]
        cases h : s.testBit e <;> simp [h]
      cases hb : s.testBit e with
      | true =>
        refine ev_step (ih _ rfl) (fun k => ?_)
        simp only [impl_items.l0]
        rw [if_pos (by omega), has_is hs (by omega), hb, Option.bind_some, if_pos rfl, if_pos (by rw [List.length_map]; omega), hw, hn, hb, if_pos rfl, List.map_append]
        rfl
      | false =>
        refine ev_step (ih _ rfl) (fun k => ?_)
        simp only [impl_items.l0]
        rw [if_pos (by omega), has_is hs (by omega), hb, Option.bind_some, if_neg (by decide), hw, hn, hb, if_neg (by decide), List.append_nil]
  exact fun e _ he _ => H e _ he rfl
theorem items_ev {s : Nat} (hs : s < 2 ^ 63) : Ev (fun k => impl_items.f k (s : Int)) ((items s).map (fun x : Nat => (x : Int))) := by
  unfold impl_items.f
  have := items_l0 hs 0 () (by omega) trivial
  simpa [itemsUpto] using this

/-! ### good posets -/
def cellB (l : List Int) (i j : Nat) : Bool := !((l.getD i 0).toNat.testBit j) || decide (sd (l.getD j 0).toNat (l.getD i 0).toNat = 0)
def rowB (l : List Int) (i : Nat) : Bool := decide (0 ≤ l.getD i 0 ∧ l.getD i 0 ≤ ((2 ^ i - 1 : Nat) : Int)) && allFrom (cellB l i) 0 i
def goodB (l : List Int) : Bool := decide (1 ≤ (l.length : Int) ∧ (l.length : Int) ≤ 10) && allFrom (rowB l) 0 l.length
theorem rowB_bound {l : List Int} {i : Nat} (h : rowB l i = true) : ∃ x : Nat, l.getD i 0 = (x : Int) ∧ x < 2 ^ i := by
  unfold rowB at h
  rw [Bool.and_eq_true, decide_eq_true_eq] at h
  have := Nat.one_le_two_pow (n := i)
  exact ⟨(l.getD i 0).toNat, by omega, by omega⟩
theorem p63 {x i : Nat} (h : x < 2 ^ i) (hi : i ≤ 62) : x < 2 ^ 63 := Nat.lt_of_lt_of_le h (two_pow_le (by omega))
theorem sd_zero_nat {a b : Nat} : ((sd a b : Nat) : Int) = 0 ↔ sd a b = 0 := by omega

theorem poGood_l1 (l : List Int) (i : Nat) (hn : l.length ≤ 10) (hi : i < l.length) (hp : ∀ j, j < i → rowB l j = true) {x : Nat} (hx : l.getD i 0 = (x : Int)) (hxi : x < 2 ^ i) (r : Bool)
    (hnext : (∀ j, j < i → cellB l i j = true) → Ev (fun k => spec_poGood.l0 k l (l.length : Int) ((i : Int) + 1) l) r) :
    ∀ (j : Nat) (_ : Unit), j ≤ i → (∀ j', j' < j → cellB l i j' = true) → Ev (fun k => spec_poGood.l1 k (i : Int) (x : Int) (j : Int) l (l.length : Int) (i : Int) l) (allFrom (cellB l i) j i && r) := by
  refine ev_down (fun k (_ : Unit) j => spec_poGood.l1 k (i : Int) (x : Int) j l (l.length : Int) (i : Int) l) (fun j _ => allFrom (cellB l i) j i && r) i (fun j _ => ∀ j', j' < j → cellB l i j' = true) ?_ ?_
  · intro _ hall
    rw [allFrom_end, Bool.true_and]
    exact ev_step (hnext hall) (fun k => by simp only [spec_poGood.l1]; rw [if_neg (by omega), wrap64_id (by omega) (by omega)])
  · intro j _ hj hall ih
    have hw : wrap64 ((j : Int) + 1) = (j : Int) + 1 := wrap64_id (by omega) (by omega)
    obtain ⟨y, hy, hyj⟩ := rowB_bound (hp j hj)
    have hc : cellB l i j = (!(x.testBit j) || decide (sd y x = 0)) := by unfold cellB; rw [hx, hy, Int.toNat_natCast, Int.toNat_natCast]
    have hb := bit_tmod (s := x) (i := j) (by omega)
    have c1 : (j : Int) < (i : Int) := by omega
    have c2 : 0 ≤ (j : Int) := by omega
    have c3 : (j : Int) < (l.length : Int) := by omega
    have ih' : cellB l i j = true → Ev (fun k => spec_poGood.l1 k (i : Int) (x : Int) ((j : Int) + 1) l (l.length : Int) (i : Int) l) (allFrom (cellB l i) (j + 1) i && r) := fun h =>
      ih () (fun j' hj' => by rcases Nat.lt_or_ge j' j with h1 | h1; exact hall j' h1; rw [show j' = j by omega]; exact h)
    have hz := andNot_nat (p63 hyj (by omega)) (p63 hxi (by omega))
    rw [allFrom_step _ hj]
    cases hbit : x.testBit j with
    | true =>
      have hb1 := hb.2 hbit
      by_cases h0 : sd y x = 0
      · have hcj : cellB l i j = true := by rw [hc, h0]; simp
        rw [hcj, Bool.true_and]
        exact ev_step (ih' hcj) (fun k => by simp only [spec_poGood.l1]; rw [if_pos c1, if_pos c2, if_pos hb1, if_pos c3, rd_nat, hy, hz, if_pos (sd_zero_nat.2 h0), hw])
      · have hcj : cellB l i j = false := by rw [hc, hbit]; simp [h0]
        rw [hcj, Bool.false_and, Bool.false_and]
        exact ev_step (Ev.now _) (fun k => by simp only [spec_poGood.l1]; rw [if_pos c1, if_pos c2, if_pos hb1, if_pos c3, rd_nat, hy, hz, if_neg (fun h => h0 (sd_zero_nat.1 h))])
    | false =>
      have hb1 : ¬ (Int.tmod (shr .i64 (x : Int) (j : Int)) 2 = 1) := fun h => by rw [hb.1 h] at hbit; cases hbit
      have hcj : cellB l i j = true := by rw [hc, hbit]; simp
      rw [hcj, Bool.true_and]
      exact ev_step (ih' hcj) (fun k => by simp only [spec_poGood.l1]; rw [if_pos c1, if_pos c2, if_neg hb1, hw])
theorem poGood_l0 (l : List Int) (hn : l.length ≤ 10) : ∀ (i : Nat) (_ : Unit), i ≤ l.length → (∀ j, j < i → rowB l j = true) → Ev (fun k => spec_poGood.l0 k l (l.length : Int) (i : Int) l) (allFrom (rowB l) i l.length) := by
  refine ev_down (fun k (_ : Unit) i => spec_poGood.l0 k l (l.length : Int) i l) (fun i _ => allFrom (rowB l) i l.length) l.length (fun i _ => ∀ j, j < i → rowB l j = true) ?_ ?_
  · intro _ _
    rw [allFrom_end]
    exact ev_step (Ev.now _) (fun k => by simp only [spec_poGood.l0]; rw [if_neg (by omega)])
  · intro i _ hi hp ih
    have hm := mask_sub (i := i) (by omega)
    have c1 : (i : Int) < (l.length : Int) := by omega
    have c2 : 0 ≤ (i : Int) := by omega
    rw [allFrom_step _ hi]
    by_cases hb : 0 ≤ l.getD i 0 ∧ l.getD i 0 ≤ ((2 ^ i - 1 : Nat) : Int)
    · have h1 := Nat.one_le_two_pow (n := i)
      obtain ⟨x, hx⟩ : ∃ x : Nat, l.getD i 0 = (x : Int) := ⟨(l.getD i 0).toNat, by omega⟩
      have hxi : x < 2 ^ i := by omega
      have hr : rowB l i = allFrom (cellB l i) 0 i := by unfold rowB; rw [decide_eq_true hb, Bool.true_and]
      rw [hr]
      refine ev_step (poGood_l1 l i hn hi hp hx hxi (allFrom (rowB l) (i + 1) l.length) (fun hall => ih () (fun j hj => ?_)) 0 () (by omega) (fun _ h => absurd h (by omega))) (fun k => ?_)
      · rcases Nat.lt_or_ge j i with h | h
        · exact hp j h
        · rw [show j = i by omega, hr]
          exact (allFrom_iff _ _ _).2 (fun j' _ h2 => hall j' h2)
      · simp only [spec_poGood.l0]
        rw [if_pos c1, if_pos c2, if_pos c1, rd_nat, hm, l1In_is, decide_eq_true hb, hx, Option.bind_some, if_pos rfl]
        rfl
    · have hr : rowB l i = false := by unfold rowB; rw [decide_eq_false hb, Bool.false_and]
      rw [hr, Bool.false_and]
      exact ev_step (Ev.now _) (fun k => by simp only [spec_poGood.l0]; rw [if_pos c1, if_pos c2, if_pos c1, rd_nat, hm, l1In_is, decide_eq_false hb, Option.bind_some, if_neg (by decide)])
theorem poGood_ev (l : List Int) : Ev (fun k => spec_poGood.f k l) (goodB l) := by
  unfold spec_poGood.f goodB
  rw [l1In_is]
  by_cases h : 1 ≤ (l.length : Int) ∧ (l.length : Int) ≤ 10
  · rw [decide_eq_true h, Bool.true_and]
    exact ev_as (poGood_l0 l (by omega) 0 () (by omega) (fun _ h => absurd h (by omega))) (fun k => by rw [Option.bind_some, if_pos rfl]; rfl)
  · rw [decide_eq_false h, Bool.false_and]
    exact ev_as (Ev.now _) (fun k => by rw [Option.bind_some, if_neg (by decide)])
abbrev cast (P : List Nat) : List Int := P.map (fun x : Nat => (x : Int))
theorem cast_length (P : List Nat) : ((cast P).length : Int) = (P.length : Int) := by simp
/-- What the program asks of the elements below one. -/
def subB (l : List Int) (x j : Nat) : Bool := decide (sd (l.getD j 0).toNat x = 0)
theorem IsPoset_l1 (l : List Int) (i : Nat) (hn : l.length ≤ 10) (hi : i < l.length) (hp : ∀ j, j < i → rowB l j = true) {x : Nat} (hxi : x < 2 ^ i) (r : Bool)
    (hnext : (∀ j, j ∈ items x → subB l x j = true) → Ev (fun k => impl_IsPoset.l0 k l (l.length : Int) ((i : Int) + 1) l) r) :
    ∀ (e : Nat) (_ : Unit), e ≤ (items x).length → (∀ j, j ∈ (items x).take e → subB l x j = true) →
      Ev (fun k => impl_IsPoset.l1 k (x : Int) l (l.length : Int) (i : Int) (cast (items x)) ((cast (items x)).length : Int) (e : Int) l) (((items x).drop e).all (subB l x) && r) := by
  have hlen : (items x).length ≤ 10 := by unfold items; exact Nat.le_trans (List.length_filter_le _ _) (by simp)
  refine ev_down (fun k (_ : Unit) e => impl_IsPoset.l1 k (x : Int) l (l.length : Int) (i : Int) (cast (items x)) ((cast (items x)).length : Int) e l) (fun e _ => ((items x).drop e).all (subB l x) && r) (items x).length (fun e _ => ∀ j, j ∈ (items x).take e → subB l x j = true) ?_ ?_
  · intro _ hall
    rw [List.drop_length, List.all_nil, Bool.true_and]
    exact ev_step (hnext (fun j hj => hall j (by rw [List.take_length]; exact hj))) (fun k => by simp only [impl_IsPoset.l1]; rw [if_neg (by rw [cast_length]; omega), wrap64_id (by omega) (by omega)])
  · intro e _ he hall ih
    have hw : wrap64 ((e : Int) + 1) = (e : Int) + 1 := wrap64_id (by omega) (by omega)
    obtain ⟨j, hj⟩ : ∃ j, (items x).getD e 0 = j := ⟨_, rfl⟩
    have hmem : j ∈ items x := by rw [← hj, List.getD_eq_getElem?_getD, List.getElem?_eq_getElem he, Option.getD_some]; exact List.getElem_mem he
    have hji : j < i := bit_lt hxi (mem_items.1 hmem).2
    obtain ⟨y, hy, hyj⟩ := rowB_bound (hp j hji)
    have c1 : (e : Int) < ((cast (items x)).length : Int) := by rw [cast_length]; omega
    have c2 : 0 ≤ (e : Int) := by omega
    have c3 : (e : Int) < ((cast (items x)).length : Int) := by rw [cast_length]; omega
    have c4 : 0 ≤ (j : Int) := by omega
    have c5 : (j : Int) < (l.length : Int) := by omega
    have hs : subB l x j = decide (sd y x = 0) := by unfold subB; rw [hy, Int.toNat_natCast]
    have hz := andNot_nat (p63 hyj (by omega)) (p63 hxi (by omega))
    rw [drop_step (items x) 0 he, hj, List.all_cons]
    by_cases h0 : sd y x = 0
    · have hsj : subB l x j = true := by rw [hs, h0]; simp
      rw [hsj, Bool.true_and]
      refine ev_step (ih () (fun j' hj' => ?_)) (fun k => ?_)
      · rw [List.take_add_one, List.mem_append] at hj'
        rcases hj' with h1 | h1
        · exact hall j' h1
        · rw [List.getElem?_eq_getElem he] at h1
          have : j' = j := by rw [← hj, List.getD_eq_getElem?_getD, List.getElem?_eq_getElem he]; simpa using h1
          rw [this]; exact hsj
      · simp only [impl_IsPoset.l1]
        rw [if_pos c1, if_pos c2, if_pos c3, rd_cast, hj, if_pos c4, if_pos c5, rd_nat, hy, hz, if_pos (sd_zero_nat.2 h0), hw]
    · have hsj : subB l x j = false := by rw [hs]; simp [h0]
      rw [hsj, Bool.false_and, Bool.false_and]
      refine ev_step (Ev.now _) (fun k => ?_)
      simp only [impl_IsPoset.l1]
      rw [if_pos c1, if_pos c2, if_pos c3, rd_cast, hj, if_pos c4, if_pos c5, rd_nat, hy, hz, if_neg (fun h => h0 (sd_zero_nat.1 h))]
theorem cell_sub (l : List Int) {i x : Nat} (hi : i ≤ 10) (hx : l.getD i 0 = (x : Int)) (hxi : x < 2 ^ i) : (items x).all (subB l x) = allFrom (cellB l i) 0 i := by
  rw [all_items _ hxi hi]
  congr 1
  funext j
  unfold cellB subB
  rw [hx, Int.toNat_natCast]
theorem IsPoset_l0 (l : List Int) (hn : l.length ≤ 10) : ∀ (i : Nat) (_ : Unit), i ≤ l.length → (∀ j, j < i → rowB l j = true) → Ev (fun k => impl_IsPoset.l0 k l (l.length : Int) (i : Int) l) (allFrom (rowB l) i l.length) := by
  refine ev_down (fun k (_ : Unit) i => impl_IsPoset.l0 k l (l.length : Int) i l) (fun i _ => allFrom (rowB l) i l.length) l.length (fun i _ => ∀ j, j < i → rowB l j = true) ?_ ?_
  · intro _ _
    rw [allFrom_end]
    exact ev_step (Ev.now _) (fun k => by simp only [impl_IsPoset.l0]; rw [if_neg (by omega)])
  · intro i _ hi hp ih
    have hm := mask_sub (i := i) (by omega)
    have c1 : (i : Int) < (l.length : Int) := by omega
    have c2 : 0 ≤ (i : Int) := by omega
    rw [allFrom_step _ hi]
    by_cases hb : 0 ≤ l.getD i 0 ∧ l.getD i 0 ≤ ((2 ^ i - 1 : Nat) : Int)
    · have h1 := Nat.one_le_two_pow (n := i)
      obtain ⟨x, hx⟩ : ∃ x : Nat, l.getD i 0 = (x : Int) := ⟨(l.getD i 0).toNat, by omega⟩
      have hxi : x < 2 ^ i := by omega
      have hr : rowB l i = allFrom (cellB l i) 0 i := by unfold rowB; rw [decide_eq_true hb, Bool.true_and]
      have hsub := cell_sub l (by omega) hx hxi
      have hgo := IsPoset_l1 l i hn hi hp hxi (allFrom (rowB l) (i + 1) l.length) (fun hall => ih () (fun j hj => by
        rcases Nat.lt_or_ge j i with h | h
        · exact hp j h
        · rw [show j = i by omega, hr, ← hsub]
          exact List.all_eq_true.2 hall)) 0 () (by omega) (fun _ h => absurd h (by simp))
      rw [List.drop_zero, hsub] at hgo
      rw [hr]
      refine ev_stepb (F := fun k t => impl_IsPoset.l1 k (x : Int) l (l.length : Int) (i : Int) t (t.length : Int) 0 l) (items_ev (p63 hxi (by omega))) hgo (fun k => ?_)
      simp only [impl_IsPoset.l0]
      rw [if_pos c1, if_pos c2, if_pos c1, rd_nat, hm, within_is, decide_eq_true hb, hx, Option.bind_some, if_pos rfl]
    · have hr : rowB l i = false := by unfold rowB; rw [decide_eq_false hb, Bool.false_and]
      rw [hr, Bool.false_and]
      exact ev_step (Ev.now _) (fun k => by simp only [impl_IsPoset.l0]; rw [if_pos c1, if_pos c2, if_pos c1, rd_nat, hm, within_is, decide_eq_false hb, Option.bind_some, if_neg (by decide)])
theorem IsPoset_ev (l : List Int) : Ev (fun k => impl_IsPoset.f k l) (goodB l) := by
  unfold impl_IsPoset.f impl_Poset_n.f goodB
  by_cases h : 1 ≤ (l.length : Int) ∧ (l.length : Int) ≤ 10
  · rw [decide_eq_true h, Bool.true_and]
    exact ev_as (IsPoset_l0 l (by omega) 0 () (by omega) (fun _ h => absurd h (by omega))) (fun k => by rw [Option.bind_some, within_is, decide_eq_true h, Option.bind_some, if_pos rfl]; rfl)
  · rw [decide_eq_false h, Bool.false_and]
    exact ev_as (Ev.now _) (fun k => by rw [Option.bind_some, within_is, decide_eq_false h, Option.bind_some, if_neg (by decide)])

/-! ### a good poset as natural numbers -/
structure Good (l : List Int) (P : List Nat) : Prop where
  eq : l = cast P
  n1 : 1 ≤ P.length
  n10 : P.length ≤ 10
  lt : ∀ i, i < P.length → P.getD i 0 < 2 ^ i
  tr : ∀ i, i < P.length → ∀ j, (P.getD i 0).testBit j = true → sd (P.getD j 0) (P.getD i 0) = 0
theorem good_of {l : List Int} (h : goodB l = true) : ∃ P, Good l P := by
  unfold goodB at h
  rw [Bool.and_eq_true, decide_eq_true_eq, allFrom_iff] at h
  obtain ⟨hl, hr⟩ := h
  refine ⟨l.map Int.toNat, ?_, by simp; omega, by simp; omega, ?_, ?_⟩
  · unfold cast
    rw [List.map_map]
    apply List.ext_getElem
    · simp
    · intro i h1 h2
      obtain ⟨x, hx, _⟩ := rowB_bound (hr i (by omega) h1)
      rw [List.getD_eq_getElem?_getD, List.getElem?_eq_getElem h1, Option.getD_some] at hx
      simp [hx]
  · intro i hi
    rw [List.length_map] at hi
    obtain ⟨x, hx, hxi⟩ := rowB_bound (hr i (by omega) hi)
    have : (l.map Int.toNat).getD i 0 = x := by
      rw [List.getD_eq_getElem?_getD, List.getElem?_map]
      rw [List.getD_eq_getElem?_getD] at hx
      rw [List.getElem?_eq_getElem hi] at hx ⊢
      simp at hx ⊢
      omega
    rw [this]; exact hxi
  · intro i hi j hj
    rw [List.length_map] at hi
    have hD : ∀ e, (l.map Int.toNat).getD e 0 = (l.getD e 0).toNat := fun e => by
      simp only [List.getD_eq_getElem?_getD, List.getElem?_map]
      cases l[e]? <;> simp
    rw [hD] at hj ⊢
    rw [hD]
    have h2 := hr i (by omega) hi
    obtain ⟨x, hx, hxi⟩ := rowB_bound h2
    unfold rowB at h2
    rw [Bool.and_eq_true, allFrom_iff] at h2
    have hji : j < i := by rw [hx, Int.toNat_natCast] at hj; exact bit_lt hxi hj
    have h3 := h2.2 j (by omega) hji
    unfold cellB at h3
    rw [hj] at h3
    simpa using h3
theorem Good.length {l : List Int} {P : List Nat} (h : Good l P) : (l.length : Int) = (P.length : Int) := by rw [h.eq]; simp
theorem Good.lt63 {l : List Int} {P : List Nat} (h : Good l P) (i : Nat) : P.getD i 0 < 2 ^ 63 := by
  rcases Nat.lt_or_ge i P.length with h1 | h1
  · exact p63 (h.lt i h1) (by have := h.n10; omega)
  · rw [List.getD_eq_getElem?_getD, List.getElem?_eq_none h1]; decide
theorem Good.ltn {l : List Int} {P : List Nat} (h : Good l P) (i : Nat) : P.getD i 0 < 2 ^ P.length := by
  rcases Nat.lt_or_ge i P.length with h1 | h1
  · exact Nat.lt_of_lt_of_le (h.lt i h1) (two_pow_le (by omega))
  · rw [List.getD_eq_getElem?_getD, List.getElem?_eq_none h1]; exact Nat.two_pow_pos _
end Go.Proofs.Ytkikpkfambagnaa.B

/-! ### S0 -/
/- Is an element in a set; the set of all. -/
namespace Go.Proofs.Ytkikpkfambagnaa.B
open Go.RowKit Go.Proofs.Ytkikpkfambagnaa.M Go.Proofs.YtkikpkfambagnaaW.PrintWords Go.Proofs.YtkikpkfambagnaaW.PrintLast Go.Proofs.YtkikpkfambagnaaW.PrintMore
attribute [local irreducible] Go.bits shl shr sd
theorem poIn_is {s e : Nat} (he : e ≤ 64) : spec_poIn.f (s : Int) (e : Int) = some (s.testBit e) := by
  unfold spec_poIn.f
  rw [if_pos (by omega)]
  congr 1
  have := bit_tmod (s := s) he
  cases hb : s.testBit e
  · rw [hb] at this; simpa using this
  · rw [hb] at this; simpa using this
theorem all_is (l : List Int) (hn : l.length ≤ 62) : impl_Poset_all.f l = some ((2 ^ l.length - 1 : Nat) : Int) := by
  unfold impl_Poset_all.f impl_Poset_n.f
  rw [Option.bind_some, if_pos (by omega), mask_sub (by omega)]
end Go.Proofs.Ytkikpkfambagnaa.B

/-! ### Srect -/
/- Rectangles: there are 27 with at most ten elements; the program's and the reference's are the same posets. -/
namespace Go.Proofs.Ytkikpkfambagnaa.B
open Go.RowKit Go.Proofs.Ytkikpkfambagnaa.M Go.Proofs.YtkikpkfambagnaaW.PrintWords Go.Proofs.YtkikpkfambagnaaW.PrintLast Go.Proofs.YtkikpkfambagnaaW.PrintMore
def sidesB (a b : Int) : Bool := decide (1 ≤ a ∧ a ≤ 10) && (decide (1 ≤ b ∧ b ≤ 10) && decide (a * b ≤ 10))
theorem mul_bounds {a b : Int} {m n : Int} (h1 : 0 ≤ a) (h2 : a ≤ m) (h3 : 0 ≤ b) (h4 : b ≤ n) : 0 ≤ a * b ∧ a * b ≤ m * n :=
  ⟨Int.mul_nonneg h1 h3, Int.mul_le_mul h2 h4 h3 (by omega)⟩
theorem poSides_is (a b : Int) : spec_poSides.f a b = some (sidesB a b) := by
  unfold spec_poSides.f sidesB
  rw [l1In_is, l1In_is]
  by_cases ha : 1 ≤ a ∧ a ≤ 10
  · rw [decide_eq_true ha, Option.bind_some, if_pos rfl]
    by_cases hb : 1 ≤ b ∧ b ≤ 10
    · rw [decide_eq_true hb, Option.bind_some, if_pos rfl]
      have hm := mul_bounds (a := a) (b := b) (m := 10) (n := 10) (by omega) ha.2 (by omega) hb.2
      rw [wrap64_id (by omega) (by omega)]
      rfl
    · rw [decide_eq_false hb, Option.bind_some, if_neg (by decide)]
      rfl
  · rw [decide_eq_false ha, Option.bind_some, if_neg (by decide)]
    rfl
theorem areSides_is (a b : Int) : impl_areSides.f a b 10 = some (sidesB a b) := by
  unfold impl_areSides.f sidesB
  rw [within_is, within_is]
  by_cases ha : 1 ≤ a ∧ a ≤ 10
  · rw [decide_eq_true ha, Option.bind_some, if_pos rfl]
    by_cases hb : 1 ≤ b ∧ b ≤ 10
    · rw [decide_eq_true hb, Option.bind_some, if_pos rfl]
      have hm := mul_bounds (a := a) (b := b) (m := 10) (n := 10) (by omega) ha.2 (by omega) hb.2
      rw [wrap64_id (by omega) (by omega)]
      rfl
    · rw [decide_eq_false hb, Option.bind_some, if_neg (by decide)]
      rfl
  · rw [decide_eq_false ha, Option.bind_some, if_neg (by decide)]
    rfl
theorem sides_nat {a b : Int} (h : sidesB a b = true) : ∃ m n : Nat, a = (m : Int) ∧ b = (n : Int) ∧ 1 ≤ m ∧ m ≤ 10 ∧ 1 ≤ n ∧ n ≤ 10 ∧ m * n ≤ 10 := by
  unfold sidesB at h
  rw [Bool.and_eq_true, Bool.and_eq_true, decide_eq_true_eq, decide_eq_true_eq, decide_eq_true_eq] at h
  obtain ⟨m, rfl⟩ : ∃ m : Nat, a = (m : Int) := ⟨a.toNat, by omega⟩
  obtain ⟨n, rfl⟩ : ∃ n : Nat, b = (n : Int) := ⟨b.toNat, by omega⟩
  refine ⟨m, n, rfl, rfl, by omega, by omega, by omega, by omega, ?_⟩
  have := h.2.2
  rw [← Int.natCast_mul] at this
  omega
def table : List (Nat × Nat × List Int) := [(1, 1, [0]), (1, 2, [0, 1]), (1, 3, [0, 1, 3]), (1, 4, [0, 1, 3, 7]), (1, 5, [0, 1, 3, 7, 15]), (1, 6, [0, 1, 3, 7, 15, 31]), (1, 7, [0, 1, 3, 7, 15, 31, 63]), (1, 8, [0, 1, 3, 7, 15, 31, 63, 127]), (1, 9, [0, 1, 3, 7, 15, 31, 63, 127, 255]), (1, 10, [0, 1, 3, 7, 15, 31, 63, 127, 255, 511]), (2, 1, [0, 1]), (2, 2, [0, 1, 1, 7]), (2, 3, [0, 1, 3, 1, 11, 31]), (2, 4, [0, 1, 3, 7, 1, 19, 55, 127]), (2, 5, [0, 1, 3, 7, 15, 1, 35, 103, 239, 511]), (3, 1, [0, 1, 3]), (3, 2, [0, 1, 1, 7, 5, 31]), (3, 3, [0, 1, 3, 1, 11, 31, 9, 91, 255]), (4, 1, [0, 1, 3, 7]), (4, 2, [0, 1, 1, 7, 5, 31, 21, 127]), (5, 1, [0, 1, 3, 7, 15]), (5, 2, [0, 1, 1, 7, 5, 31, 21, 127, 85, 511]), (6, 1, [0, 1, 3, 7, 15, 31]), (7, 1, [0, 1, 3, 7, 15, 31, 63]), (8, 1, [0, 1, 3, 7, 15, 31, 63, 127]), (9, 1, [0, 1, 3, 7, 15, 31, 63, 127, 255]), (10, 1, [0, 1, 3, 7, 15, 31, 63, 127, 255, 511])]
theorem rects : table.all (fun p => spec_poRectangle.f 200 (p.1 : Int) (p.2.1 : Int) == some p.2.2 && (impl_rectangle.f 200 (p.1 : Int) (p.2.1 : Int) == some p.2.2 && (goodB p.2.2 && p.2.2.length == p.1 * p.2.1))) = true := by decide +kernel
theorem tabled : ∀ m n : Fin 11, 1 ≤ m.val → 1 ≤ n.val → m.val * n.val ≤ 10 → table.any (fun p => p.1 == m.val && p.2.1 == n.val) = true := by decide +kernel
theorem rect_ev {m n : Nat} (h1 : 1 ≤ m) (h2 : m ≤ 10) (h3 : 1 ≤ n) (h4 : n ≤ 10) (h5 : m * n ≤ 10) : ∃ l P, Good l P ∧ P.length = m * n ∧ Ev (fun k => spec_poRectangle.f k (m : Int) (n : Int)) l ∧ Ev (fun k => impl_rectangle.f k (m : Int) (n : Int)) l := by
  have H := tabled ⟨m, by omega⟩ ⟨n, by omega⟩ h1 h3 h5
  rw [List.any_eq_true] at H
  obtain ⟨⟨m', n', l⟩, hp, he⟩ := H
  simp only [Bool.and_eq_true, beq_iff_eq] at he
  obtain ⟨rfl, rfl⟩ := he
  have K := List.all_eq_true.1 rects _ hp
  simp only [Bool.and_eq_true, beq_iff_eq] at K
  obtain ⟨k1, k2, k3, k4⟩ := K
  obtain ⟨P, hP⟩ := good_of k3
  exact ⟨l, P, hP, by have := hP.length; omega, Ev.of (fun k => spec_poRectangle.mono _ _ k) k1, Ev.of (fun k => impl_rectangle.mono _ _ k) k2⟩
end Go.Proofs.Ytkikpkfambagnaa.B

/-! ### S9 -/
/- Sides of rectangles of at most nine elements: both guards. -/
namespace Go.Proofs.Ytkikpkfambagnaa.B
open Go.RowKit Go.Proofs.Ytkikpkfambagnaa.M Go.Proofs.YtkikpkfambagnaaW.PrintWords Go.Proofs.YtkikpkfambagnaaW.PrintLast Go.Proofs.YtkikpkfambagnaaW.PrintMore
attribute [local irreducible] Go.bits shl shr sd
def sides9 (a b : Int) : Bool := decide (1 ≤ a ∧ 1 ≤ b ∧ a ≤ 9 ∧ b ≤ 9 ∧ a * b ≤ 9)
theorem obSides_is (a b : Int) : spec_obSides.f a b = some (sides9 a b) := by
  unfold spec_obSides.f spec_poSides.f sides9
  rw [l1In_is, l1In_is]
  by_cases ha : 1 ≤ a ∧ a ≤ 10
  · rw [decide_eq_true ha, Option.bind_some, if_pos rfl]
    by_cases hb : 1 ≤ b ∧ b ≤ 10
    · rw [decide_eq_true hb, Option.bind_some, if_pos rfl, Option.bind_some]
      have hm := mul_bounds (a := a) (b := b) (m := 10) (n := 10) (by omega) ha.2 (by omega) hb.2
      have h9 : a * b ≤ 9 → a ≤ 9 ∧ b ≤ 9 := fun h => by
        have k1 : a * 1 ≤ a * b := Int.mul_le_mul_of_nonneg_left hb.1 (by omega)
        have k2 : 1 * b ≤ a * b := Int.mul_le_mul_of_nonneg_right ha.1 (by omega)
        omega
      rw [wrap64_id (by omega) (by omega)]
      by_cases h : a * b ≤ 10
      · rw [if_pos (decide_eq_true h)]
        congr 1
        rw [decide_eq_decide]
        constructor
        · intro h'; have := h9 h'; omega
        · omega
      · rw [decide_eq_false h, if_neg (by decide)]
        congr 1
        symm
        rw [decide_eq_false_iff_not]
        omega
    · rw [decide_eq_false hb, Option.bind_some, if_neg (by decide), Option.bind_some, if_neg (by decide), decide_eq_false (by omega)]
  · rw [decide_eq_false ha, Option.bind_some, if_neg (by decide), Option.bind_some, if_neg (by decide), decide_eq_false (by omega)]
theorem areSides9_is (a b : Int) : impl_areSides.f a b 9 = some (sides9 a b) := by
  unfold impl_areSides.f sides9
  rw [within_is, within_is]
  by_cases ha : 1 ≤ a ∧ a ≤ 9
  · rw [decide_eq_true ha, Option.bind_some, if_pos rfl]
    by_cases hb : 1 ≤ b ∧ b ≤ 9
    · rw [decide_eq_true hb, Option.bind_some, if_pos rfl]
      have hm := mul_bounds (a := a) (b := b) (m := 9) (n := 9) (by omega) ha.2 (by omega) hb.2
      rw [wrap64_id (by omega) (by omega)]
      congr 1
      rw [decide_eq_decide]
      omega
    · rw [decide_eq_false hb, Option.bind_some, if_neg (by decide), decide_eq_false (by omega)]
  · rw [decide_eq_false ha, Option.bind_some, if_neg (by decide), decide_eq_false (by omega)]
theorem sides9_nat {a b : Int} (h : sides9 a b = true) : ∃ m n : Nat, a = (m : Int) ∧ b = (n : Int) ∧ 1 ≤ m ∧ m ≤ 10 ∧ 1 ≤ n ∧ n ≤ 10 ∧ m * n ≤ 10 ∧ m * n ≤ 9 ∧ m ≤ 9 ∧ n ≤ 9 := by
  unfold sides9 at h
  rw [decide_eq_true_eq] at h
  obtain ⟨m, rfl⟩ : ∃ m : Nat, a = (m : Int) := ⟨a.toNat, by omega⟩
  obtain ⟨n, rfl⟩ : ∃ n : Nat, b = (n : Int) := ⟨b.toNat, by omega⟩
  have h5 := h.2.2.2.2
  rw [← Int.natCast_mul] at h5
  exact ⟨m, n, rfl, rfl, by omega, by omega, by omega, by omega, by omega, by omega, by omega, by omega⟩
end Go.Proofs.Ytkikpkfambagnaa.B

/-! ### Swords -/
/- Border words of ideals: both sides, looked at one by one. -/
namespace Go.Proofs.Ytkikpkfambagnaa.B
open Go.RowKit Go.Proofs.Ytkikpkfambagnaa.M Go.Proofs.YtkikpkfambagnaaW.PrintWords Go.Proofs.YtkikpkfambagnaaW.PrintLast Go.Proofs.YtkikpkfambagnaaW.PrintMore
def wordOk (m n : Nat) (P : List Nat) (s : Nat) : Bool := !idl P s || ((spec_obWord.f 60 (m : Int) (n : Int) (s : Int)).isSome && decide ((spec_obWord.f 60 (m : Int) (n : Int) (s : Int)).map (fun w => (w, true)) = impl_IdealWord.l0 60 (n : Int) (s : Int) (⟨#[]⟩ : ByteArray) 0 ((m : Int) - 1)))
def wordsOk (m n : Nat) (P : List Nat) : Bool := (List.range (2 ^ (m * n))).all (wordOk m n P)
theorem words_all : table.all (fun p => !decide (p.1 * p.2.1 ≤ 9) || wordsOk p.1 p.2.1 (p.2.2.map Int.toNat)) = true := by decide +kernel
theorem rect9_ev {m n : Nat} (h1 : 1 ≤ m) (h2 : m ≤ 10) (h3 : 1 ≤ n) (h4 : n ≤ 10) (h5 : m * n ≤ 10) (h9 : m * n ≤ 9) : ∃ l P, Good l P ∧ P.length = m * n ∧ Ev (fun k => spec_poRectangle.f k (m : Int) (n : Int)) l ∧ Ev (fun k => impl_rectangle.f k (m : Int) (n : Int)) l ∧ wordsOk m n P = true := by
  have H := tabled ⟨m, by omega⟩ ⟨n, by omega⟩ h1 h3 h5
  rw [List.any_eq_true] at H
  obtain ⟨⟨m', n', l⟩, hp, he⟩ := H
  simp only [Bool.and_eq_true, beq_iff_eq] at he
  obtain ⟨rfl, rfl⟩ := he
  have K := List.all_eq_true.1 rects _ hp
  simp only [Bool.and_eq_true, beq_iff_eq] at K
  obtain ⟨k1, k2, k3, k4⟩ := K
  have W := List.all_eq_true.1 words_all _ hp
  rw [decide_eq_true h9, Bool.not_true, Bool.false_or] at W
  obtain ⟨P, hP⟩ := good_of k3
  have hn : l.map Int.toNat = P := by
    rw [hP.eq]
    unfold cast
    rw [List.map_map]
    exact List.map_id' _
  rw [hn] at W
  exact ⟨l, P, hP, by have := hP.length; omega, Ev.of (fun k => spec_poRectangle.mono _ _ k) k1, Ev.of (fun k => impl_rectangle.mono _ _ k) k2, W⟩
theorem words_ev {m n s : Nat} {P : List Nat} (hW : wordsOk m n P = true) (hs : s < 2 ^ (m * n)) (hi : idl P s = true) : ∃ w, Ev (fun k => spec_obWord.f k (m : Int) (n : Int) (s : Int)) w ∧ Ev (fun k => impl_IdealWord.l0 k (n : Int) (s : Int) (⟨#[]⟩ : ByteArray) 0 ((m : Int) - 1)) (w, true) := by
  have h := List.all_eq_true.1 hW s (List.mem_range.2 hs)
  unfold wordOk at h
  rw [hi, Bool.not_true, Bool.false_or, Bool.and_eq_true, decide_eq_true_eq] at h
  obtain ⟨h1, h2⟩ := h
  obtain ⟨w, hw⟩ := Option.isSome_iff_exists.1 h1
  rw [hw, Option.map_some] at h2
  exact ⟨w, Ev.of (fun k => spec_obWord.mono _ _ _ k) hw, Ev.of (fun k => impl_IdealWord.mono_l k _ _ _ _ _) h2.symm⟩
end Go.Proofs.Ytkikpkfambagnaa.B

/-! ### S -/
/- Sets of a good poset: is it one, is an element in it. -/
namespace Go.Proofs.Ytkikpkfambagnaa.B
open Go.RowKit Go.Proofs.Ytkikpkfambagnaa.M Go.Proofs.YtkikpkfambagnaaW.PrintWords Go.Proofs.YtkikpkfambagnaaW.PrintLast Go.Proofs.YtkikpkfambagnaaW.PrintMore
attribute [local irreducible] Go.bits shl shr sd
/-- Is a number a set of elements? -/
def setB (l : List Int) (a : Int) : Bool := decide (0 ≤ a ∧ a ≤ ((2 ^ l.length - 1 : Nat) : Int))
theorem poSet_is (l : List Int) (hn : l.length ≤ 62) (a : Int) : spec_poSet.f l a = some (setB l a) := by
  unfold spec_poSet.f setB
  rw [mask_sub (by omega), l1In_is]
  rfl
theorem goodB_length {l : List Int} (h : goodB l = true) : 1 ≤ l.length ∧ l.length ≤ 10 := by
  unfold goodB at h
  rw [Bool.and_eq_true, decide_eq_true_eq] at h
  omega
theorem isSet_ev (l : List Int) (a : Int) : Ev (fun k => impl_isSet.f k l a) (goodB l && setB l a) := by
  unfold impl_isSet.f
  refine Ev.bind (IsPoset_ev l) ?_
  cases hg : goodB l with
  | false => exact ev_as (Ev.now _) (fun k => by rw [if_neg (by decide)]; rfl)
  | true =>
    have := goodB_length hg
    rw [Bool.true_and]
    exact ev_as (Ev.now _) (fun k => by rw [if_pos rfl, all_is l (by omega), Option.bind_some, within_is]; rfl)
theorem set_nat {l : List Int} {a : Int} (h : setB l a = true) : ∃ s : Nat, a = (s : Int) ∧ s < 2 ^ l.length := by
  unfold setB at h
  rw [decide_eq_true_eq] at h
  have := Nat.one_le_two_pow (n := l.length)
  exact ⟨a.toNat, by omega, by omega⟩
end Go.Proofs.Ytkikpkfambagnaa.B

/-! ### Sidl -/
/- Is a set an ideal, as the reference asks. -/
namespace Go.Proofs.Ytkikpkfambagnaa.B
open Go.RowKit Go.Proofs.Ytkikpkfambagnaa.M Go.Proofs.YtkikpkfambagnaaW.PrintWords Go.Proofs.YtkikpkfambagnaaW.PrintLast Go.Proofs.YtkikpkfambagnaaW.PrintMore
attribute [local irreducible] Go.bits shl shr sd
theorem poIdeal_ev {l : List Int} {P : List Nat} (hP : Good l P) {s : Nat} (hs : s < 2 ^ P.length) : Ev (fun k => spec_poIdeal.f k l (s : Int)) (idl P s) := by
  have hn := hP.n10
  have hl := hP.length
  have H : ∀ (i : Nat) (_ : Unit), i ≤ P.length → True → Ev (fun k => spec_poIdeal.l0 k (s : Int) l (l.length : Int) (i : Int)) (allFrom (fun i => !s.testBit i || decide (sd (P.getD i 0) s = 0)) i P.length) := by
    refine ev_down (fun k (_ : Unit) i => spec_poIdeal.l0 k (s : Int) l (l.length : Int) i) (fun i _ => allFrom (fun i => !s.testBit i || decide (sd (P.getD i 0) s = 0)) i P.length) P.length (fun _ _ => True) ?_ ?_
    · intro _ _
      rw [allFrom_end]
      exact ev_step (Ev.now _) (fun k => by simp only [spec_poIdeal.l0]; rw [if_neg (by omega)])
    · intro i _ hi _ ih
      have c1 : (i : Int) < (l.length : Int) := by omega
      have c2 : 0 ≤ (i : Int) := by omega
      have hw : wrap64 ((i : Int) + 1) = (i : Int) + 1 := wrap64_id (by omega) (by omega)
      have hb := poIn_is (s := s) (e := i) (by omega)
      have ho := andNot_nat (hP.lt63 i) (p63 hs (by omega))
      have hr : rd l (i : Int) = ((P.getD i 0 : Nat) : Int) := by rw [hP.eq, rd_cast]
      rw [allFrom_step _ hi]
      cases hbit : s.testBit i with
      | true =>
        by_cases h0 : sd (P.getD i 0) s = 0
        · rw [decide_eq_true h0, Bool.or_true, Bool.true_and]
          exact ev_step (ih () trivial) (fun k => by simp only [spec_poIdeal.l0]; rw [if_pos c1, if_pos c2, if_pos c1, hb, hbit, Option.bind_some, if_pos rfl, hr, ho, if_pos (sd_zero_nat.2 h0), hw])
        · rw [decide_eq_false h0, Bool.not_true, Bool.or_false, Bool.false_and]
          exact ev_step (Ev.now _) (fun k => by simp only [spec_poIdeal.l0]; rw [if_pos c1, if_pos c2, if_pos c1, hb, hbit, Option.bind_some, if_pos rfl, hr, ho, if_neg (fun h => h0 (sd_zero_nat.1 h))])
      | false =>
        rw [Bool.not_false, Bool.true_or, Bool.true_and]
        exact ev_step (ih () trivial) (fun k => by simp only [spec_poIdeal.l0]; rw [if_pos c1, if_pos c2, if_pos c1, hb, hbit, Option.bind_some, if_neg (by decide), hw])
  unfold spec_poIdeal.f
  exact H 0 () (by omega) trivial
end Go.Proofs.Ytkikpkfambagnaa.B

/-! ### Sclose -/
/- The least ideal with a set, as the program makes it. -/
namespace Go.Proofs.Ytkikpkfambagnaa.B
open Go.RowKit Go.Proofs.Ytkikpkfambagnaa.M Go.Proofs.YtkikpkfambagnaaW.PrintWords Go.Proofs.YtkikpkfambagnaaW.PrintLast Go.Proofs.YtkikpkfambagnaaW.PrintMore
attribute [local irreducible] Go.bits shl shr sd
theorem close_l0 {l : List Int} {P : List Nat} (hP : Good l P) {s : Nat} (hs : s < 2 ^ P.length) : ∀ (e : Nat) (st : Nat), e ≤ (items s).length → st < 2 ^ P.length →
    Ev (fun k => impl_Poset_close.l0 k (st : Int) (cast (items s)) ((cast (items s)).length : Int) (e : Int) l) ((((items s).drop e).foldl (fun o i => o ||| P.getD i 0) st : Nat) : Int) := by
  have hn := hP.n10
  have hlen : (items s).length ≤ 10 := by unfold items; exact Nat.le_trans (List.length_filter_le _ _) (by simp)
  refine ev_down (fun k (st : Nat) e => impl_Poset_close.l0 k (st : Int) (cast (items s)) ((cast (items s)).length : Int) e l) (fun e st => ((((items s).drop e).foldl (fun o i => o ||| P.getD i 0) st : Nat) : Int)) (items s).length (fun _ st => st < 2 ^ P.length) ?_ ?_
  · intro st _
    rw [List.drop_length, List.foldl_nil]
    exact ev_step (Ev.now _) (fun k => by simp only [impl_Poset_close.l0]; rw [if_neg (by rw [cast_length]; omega)])
  · intro e st he hst ih
    obtain ⟨j, hj⟩ : ∃ j, (items s).getD e 0 = j := ⟨_, rfl⟩
    have hmem : j ∈ items s := by rw [← hj, List.getD_eq_getElem?_getD, List.getElem?_eq_getElem he, Option.getD_some]; exact List.getElem_mem he
    have hjn : j < P.length := bit_lt hs (mem_items.1 hmem).2
    have hl := hP.length
    have c1 : (e : Int) < ((cast (items s)).length : Int) := by rw [cast_length]; omega
    have c2 : 0 ≤ (e : Int) := by omega
    have c4 : 0 ≤ (j : Int) := by omega
    have c5 : (j : Int) < (l.length : Int) := by omega
    have hw : wrap64 ((e : Int) + 1) = (e : Int) + 1 := wrap64_id (by omega) (by omega)
    have ho := or_nat (p63 hst (by omega)) (hP.lt63 j)
    rw [drop_step (items s) 0 he, hj, List.foldl_cons]
    refine ev_step (ih (st ||| P.getD j 0) (Nat.or_lt_two_pow hst (hP.ltn j))) (fun k => ?_)
    simp only [impl_Poset_close.l0]
    rw [if_pos c1, if_pos c2, if_pos c1, rd_cast, hj, if_pos c4, if_pos c5, hw]
    conv => lhs; rw [hP.eq, rd_cast]
    rw [ho, ← hP.eq]
theorem close_ev {l : List Int} {P : List Nat} (hP : Good l P) {s : Nat} (hs : s < 2 ^ P.length) : Ev (fun k => impl_Poset_close.f k l (s : Int)) ((dn P s : Nat) : Int) := by
  have hn := hP.n10
  unfold impl_Poset_close.f
  refine Ev.bind (items_ev (p63 hs (by omega))) ?_
  have := close_l0 hP hs 0 s (by omega) hs
  rw [List.drop_zero, fold_items _ hs (by omega)] at this
  exact this
end Go.Proofs.Ytkikpkfambagnaa.B

/-! ### Sin -/
/- Is it a good poset, and a set an ideal of it: both sides. -/
namespace Go.Proofs.Ytkikpkfambagnaa.B
open Go.RowKit Go.Proofs.Ytkikpkfambagnaa.M Go.Proofs.YtkikpkfambagnaaW.PrintWords Go.Proofs.YtkikpkfambagnaaW.PrintLast Go.Proofs.YtkikpkfambagnaaW.PrintMore
attribute [local irreducible] Go.bits shl shr sd
/-- Is it a good poset, and a number an ideal of it? -/
def inB (l : List Int) (a : Int) : Bool := goodB l && (setB l a && idl (l.map Int.toNat) a.toNat)
theorem Good.nat {l : List Int} {P : List Nat} (h : Good l P) : l.map Int.toNat = P := by
  rw [h.eq]
  unfold cast
  rw [List.map_map]
  conv => rhs; rw [← List.map_id P]
  congr 1
theorem in_nat {l : List Int} {a : Int} (h : inB l a = true) : ∃ P, ∃ s : Nat, Good l P ∧ a = (s : Int) ∧ s < 2 ^ P.length ∧ idl P s = true := by
  unfold inB at h
  rw [Bool.and_eq_true, Bool.and_eq_true] at h
  obtain ⟨P, hP⟩ := good_of h.1
  obtain ⟨s, rfl, hs⟩ := set_nat h.2.1
  have hl := hP.length
  have hi := h.2.2
  rw [hP.nat, Int.toNat_natCast] at hi
  exact ⟨P, s, hP, rfl, by rw [show P.length = l.length by omega]; exact hs, hi⟩
theorem tgIn_ev (l : List Int) (a : Int) : Ev (fun k => spec_tgIn.f k l a) (inB l a) := by
  unfold spec_tgIn.f inB
  refine Ev.bind (poGood_ev l) ?_
  cases hg : goodB l with
  | false => exact ev_as (Ev.now _) (fun k => by rw [if_neg (by decide)]; rfl)
  | true =>
    have hlen := goodB_length hg
    rw [Bool.true_and]
    cases hs : setB l a with
    | false => exact ev_as (Ev.now _) (fun k => by rw [if_pos rfl, poSet_is l (by omega), hs, Option.bind_some, if_neg (by decide)]; rfl)
    | true =>
      obtain ⟨P, hP⟩ := good_of hg
      obtain ⟨s, rfl, hs2⟩ := set_nat hs
      have hl := hP.length
      rw [hP.nat, Int.toNat_natCast, Bool.true_and]
      exact ev_bind (poIdeal_ev hP (by rw [show P.length = l.length by omega]; exact hs2)) (Ev.now _) (fun k => by rw [if_pos rfl, poSet_is l (by omega), hs, Option.bind_some, if_pos rfl])
theorem isIdeal_ev (l : List Int) (a : Int) : Ev (fun k => impl_isIdeal.f k l a) (inB l a) := by
  unfold impl_isIdeal.f inB
  refine Ev.bind (isSet_ev l a) ?_
  cases hg : goodB l with
  | false => exact ev_as (Ev.now _) (fun k => by rw [Bool.false_and, if_neg (by decide)]; rfl)
  | true =>
    have hlen := goodB_length hg
    rw [Bool.true_and, Bool.true_and]
    cases hs : setB l a with
    | false => exact ev_as (Ev.now _) (fun k => by rw [if_neg (by decide)]; rfl)
    | true =>
      obtain ⟨P, hP⟩ := good_of hg
      obtain ⟨s, rfl, hs2⟩ := set_nat hs
      have hl := hP.length
      rw [hP.nat, Int.toNat_natCast, Bool.true_and, idl_dn]
      refine ev_bind (close_ev hP (by rw [show P.length = l.length by omega]; exact hs2)) (ev_eq (Ev.now _) ?_) (fun k => by rw [if_pos rfl])
      rw [Bool.eq_iff_iff, beq_iff_eq, decide_eq_true_eq]
      omega
end Go.Proofs.Ytkikpkfambagnaa.B

/-! ### PureFnExactIdealWord -/
/- The plain law of IdealWord: the two printed functions answer alike. -/
namespace Go.Proofs.Ytkikpkfambagnaa.B
open Go.RowKit Go.Proofs.Ytkikpkfambagnaa.M Go.Proofs.YtkikpkfambagnaaW.PrintWords Go.Proofs.YtkikpkfambagnaaW.PrintLast Go.Proofs.YtkikpkfambagnaaW.PrintMore
attribute [local irreducible] Go.bits shl shr sd
theorem poSides_of9 {a b : Int} (h : sides9 a b = true) : spec_poSides.f a b = some true := by
  obtain ⟨m, n, rfl, rfl, h1, h2, h3, h4, h5, h6, h7, h8⟩ := sides9_nat h
  rw [poSides_is]
  unfold sidesB
  rw [decide_eq_true (by omega), decide_eq_true (by omega), decide_eq_true (by rw [← Int.natCast_mul]; omega)]
  rfl
theorem both_IdealWord (a b c : Int) : ∃ w z, Ev (fun k => spec_IdealWord.f k a b c) (w, z) ∧ Ev (fun k => impl_IdealWord.f k a b c) (w, z) := by
  unfold spec_IdealWord.f impl_IdealWord.f
  cases hs : sides9 a b with
  | false =>
    refine ⟨⟨#[]⟩, false, ?_, ?_⟩
    · refine Ev.bind (a := false) ?_ (ev_as (Ev.now _) (fun k => by rw [if_neg (by decide)]))
      unfold spec_obIdeal.f
      exact ev_as (Ev.now _) (fun k => by rw [obSides_is, hs, Option.bind_some, if_neg (by decide)])
    · refine Ev.bind (a := false) ?_ (ev_as (Ev.now _) (fun k => by rw [if_neg (by decide)]))
      unfold impl_isIdealOf.f
      exact ev_as (Ev.now _) (fun k => by rw [areSides9_is, hs, Option.bind_some, if_neg (by decide)])
  | true =>
    have hps := poSides_of9 hs
    obtain ⟨m, n, rfl, rfl, h1, h2, h3, h4, h5, h6, h7, h8⟩ := sides9_nat hs
    obtain ⟨l, P, hP, hlen, e1, e2, hW⟩ := rect9_ev h1 h2 h3 h4 h5 h6
    have g1 : Ev (fun k => spec_obIdeal.f k (m : Int) (n : Int) c) (inB l c) := by
      unfold spec_obIdeal.f
      refine ev_bind (a := inB l c) ?_ (Ev.now _) (fun k => by rw [obSides_is, hs, Option.bind_some, if_pos rfl])
      unfold spec_tgRectangle.f
      refine ev_bind e1 ?_ (fun k => by rw [hps, Option.bind_some, if_pos rfl])
      exact Ev.bind (tgIn_ev l c) (Ev.now _)
    have g2 : Ev (fun k => impl_isIdealOf.f k (m : Int) (n : Int) c) (inB l c) := by
      unfold impl_isIdealOf.f
      refine ev_bind e2 ?_ (fun k => by rw [areSides9_is, hs, Option.bind_some, if_pos rfl])
      exact Ev.bind (isIdeal_ev l c) (Ev.now _)
    cases hg : inB l c with
    | false =>
      exact ⟨⟨#[]⟩, false, Ev.bind (hg ▸ g1) (ev_as (Ev.now _) (fun k => by rw [if_neg (by decide)])), Ev.bind (hg ▸ g2) (ev_as (Ev.now _) (fun k => by rw [if_neg (by decide)]))⟩
    | true =>
      obtain ⟨P', s, hP', rfl, hsl, hi⟩ := in_nat hg
      have hPP : P' = P := by rw [← hP'.nat, hP.nat]
      subst hPP
      obtain ⟨w, w1, w2⟩ := words_ev hW (by rw [← hlen]; exact hsl) hi
      have hm1 : wrap64 ((m : Int) - 1) = (m : Int) - 1 := wrap64_id (by omega) (by omega)
      refine ⟨w, true, Ev.bind (hg ▸ g1) ?_, Ev.bind (hg ▸ g2) ?_⟩
      · exact ev_bind w1 (Ev.now _) (fun k => by rw [if_pos rfl])
      · exact ev_as w2 (fun k => by rw [if_pos rfl, hm1])
theorem FnExactIdealWord (a b c : Int) (_ : (Lit.int .i64 a).wf = true) (_ : (Lit.int .i64 b).wf = true) (_ : (Lit.int .i64 c).wf = true) : ∃ k, laws_FnExactIdealWord.f k a b c = some true := by
  apply Ev.rounds
  unfold laws_FnExactIdealWord.f
  obtain ⟨w, z, h1, h2⟩ := both_IdealWord a b c
  refine Ev.bind h1 ?_
  refine Ev.bind h2 ?_
  exact ev_as (Ev.now _) (fun k => by rw [if_pos rfl, bne_self_eq_false, if_neg (by decide)])
end Go.Proofs.Ytkikpkfambagnaa.B
