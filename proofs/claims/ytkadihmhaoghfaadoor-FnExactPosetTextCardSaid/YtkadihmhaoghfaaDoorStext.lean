/- The text of a poset: both sides. -/
import Derived.Test.YtkadihmhaoghfaaDoorSpairs
import Derived.Test.YtkadihmhaoghfaaDoorSpairi
import Derived.Lib.Join
import Derived.Test.YtkadihmhaoghfaaDoorB1
import Derived.Test.YtkadihmhaoghfaaDoorB2
import Derived.Test.YtkadihmhaoghfaaDoorB3
import Derived.Test.YtkadihmhaoghfaaDoorB4
namespace Go.Proofs.YtkadihmhaoghfaaDoor.B
open Go.RowKit Go.Proofs.YtkadihmhaoghfaaDoor.M Go.Proofs.YtkadihmhaoghfaaDoorW.PrintWords Go.Proofs.YtkadihmhaoghfaaDoorW.PrintLast Go.Proofs.YtkadihmhaoghfaaDoorW.PrintMore
attribute [local irreducible] Go.bits shl shr sd
def dig (n : Nat) : ByteArray := if n < 10 then ⟨#[UInt8.ofNat (48 + n)]⟩ else ⟨#[UInt8.ofNat (48 + n / 10), UInt8.ofNat (48 + n % 10)]⟩
theorem num_all : ∀ n : Fin 11, spec_l1Num.f 5 ((n.val : Nat) : Int) = some (dig n.val) := by decide +kernel
theorem num_ev {n : Nat} (h : n ≤ 10) : Ev (fun k => spec_l1Num.f k (n : Int)) (dig n) := Ev.of (fun k => spec_l1Num.mono _ k) (num_all ⟨n, by omega⟩)
theorem itoa_is {n : Nat} (h : n < 100) : strconv_Itoa_35.f (n : Int) = some (dig n) := by
  unfold strconv_Itoa_35.f
  rw [if_pos (by omega), if_pos (by omega), Int.toNat_natCast]
  unfold dig
  by_cases c : n < 10
  · rw [if_pos c, Lib.decDigits_one c]
  · rw [if_neg c, Lib.decDigits_two c h]
theorem dig_size (n : Nat) : (dig n).size ≤ 2 ∧ 1 ≤ (dig n).size := by
  unfold dig
  split
  · exact ⟨(by show 1 ≤ 2; decide), (by show 1 ≤ 1; decide)⟩
  · exact ⟨(by show 2 ≤ 2; decide), (by show 1 ≤ 2; decide)⟩
theorem lit1 (b : UInt8) : (⟨#[b]⟩ : ByteArray).size = 1 := rfl
def part (c : List Int) : ByteArray := (dig (c.getD 0 0).toNat ++ (⟨#[60]⟩ : ByteArray)) ++ dig (c.getD 1 0).toNat
theorem part_size (c : List Int) : (part c).size ≤ 5 ∧ 1 ≤ (part c).size := by
  unfold part
  rw [ByteArray.size_append, ByteArray.size_append, lit1]
  have := dig_size (c.getD 0 0).toNat
  have := dig_size (c.getD 1 0).toNat
  omega
def sj (xs : List ByteArray) : ByteArray := ⟨(Lib.join (xs.map (·.data.toList)) ((⟨#[44]⟩ : ByteArray).data.toList)).toArray⟩
theorem sj_one (y : ByteArray) : sj [y] = y := by
  unfold sj
  rw [List.map_cons, List.map_nil, Lib.join_one]
theorem bytes_ext {a b : ByteArray} (h : a.data.toList = b.data.toList) : a = b := ByteArray.ext (Array.toList_inj.1 h)
theorem nil_app (y : ByteArray) : (⟨#[]⟩ : ByteArray) ++ y = y := bytes_ext (by rw [ByteArray.data_append, Array.toList_append]; rfl)
theorem sj_nil : sj [] = (⟨#[]⟩ : ByteArray) := rfl
theorem sj_snoc (xs : List ByteArray) (h : xs ≠ []) (y : ByteArray) : sj (xs ++ [y]) = (sj xs ++ (⟨#[44]⟩ : ByteArray)) ++ y := by
  cases xs with
  | nil => exact absurd rfl h
  | cons x r =>
    apply bytes_ext
    rw [ByteArray.data_append, ByteArray.data_append, Array.toList_append, Array.toList_append]
    unfold sj
    simp only [List.cons_append, List.map_cons, List.map_append, List.map_nil, Lib.join_cons, Lib.joinTail, List.flatten_append, List.flatten_cons, List.flatten_nil, List.append_nil, List.append_assoc]
theorem sj_bounds (R : List (List Int)) : ∀ i, i ≤ R.length → (sj ((R.map part).take i)).size ≤ 6 * i ∧ i ≤ (sj ((R.map part).take i)).size
  | 0, _ => by rw [List.take_zero]; decide
  | i + 1, h => by
    have ih := sj_bounds R i (by omega)
    have hi : i < (R.map part).length := by rw [List.length_map]; omega
    have hp := part_size (R[i]'(by omega))
    rw [List.take_succ_eq_append_getElem hi, List.getElem_map]
    by_cases h0 : i = 0
    · subst h0
      rw [List.take_zero, List.nil_append, sj_one]
      omega
    · rw [sj_snoc _ (by intro he; have := congrArg List.length he; rw [List.length_take] at this; rw [List.length_nil] at this; omega), ByteArray.size_append, ByteArray.size_append, lit1]
      omega
def text (R : List (List Int)) (n : Nat) : ByteArray := (dig n ++ (⟨#[58]⟩ : ByteArray)) ++ (if R = [] then (⟨#[45]⟩ : ByteArray) else sj (R.map part))
def Pairs (R : List (List Int)) : Prop := ∀ c ∈ R, ∃ j i : Nat, c = [(j : Int), (i : Int)] ∧ j ≤ 10 ∧ i ≤ 10
theorem pair_at {R : List (List Int)} (hR : Pairs R) {i : Nat} (hi : i < R.length) : ∃ a b : Nat, rd_L1 R (i : Int) = [(a : Int), (b : Int)] ∧ a ≤ 10 ∧ b ≤ 10 ∧ R[i] = [(a : Int), (b : Int)] := by
  obtain ⟨a, b, h, h1, h2⟩ := hR _ (List.getElem_mem hi)
  refine ⟨a, b, ?_, h1, h2, h⟩
  unfold rd_L1
  rw [Int.toNat_natCast, List.getD_eq_getElem?_getD, List.getElem?_eq_getElem hi, Option.getD_some, h]
theorem take_next {R : List (List Int)} {i : Nat} (hi : i < R.length) : (R.map part).take (i + 1) = (R.map part).take i ++ [part R[i]] := by
  rw [List.take_succ_eq_append_getElem (by rw [List.length_map]; omega), List.getElem_map]
theorem poText_l0 {R : List (List Int)} (hR : Pairs R) (hm : R.length ≤ 100) {l : List Int} (hl : l.length ≤ 10) : ∀ (d i : Nat), i + d = R.length → Ev (fun k => spec_poText.l0 k (sj ((R.map part).take i)) R (R.length : Int) (i : Int) l) (text R l.length)
  | 0, i, h => by
    have hb := sj_bounds R i (by omega)
    have ht : (R.map part).take i = R.map part := List.take_of_length_le (by rw [List.length_map]; omega)
    have hd := dig_size l.length
    have hs : (sj ((R.map part).take i)).toList = ([] : List UInt8) ↔ R = [] := by
      rw [Lib.toList_data]
      constructor
      · intro he
        have he2 := congrArg List.length he
        rw [Array.length_toList, List.length_nil] at he2
        have he3 : (sj ((R.map part).take i)).size = 0 := he2
        exact List.length_eq_zero_iff.1 (by omega)
      · rintro rfl
        rw [ht]
        rfl
    unfold text
    by_cases h0 : R = []
    · rw [if_pos h0]
      refine ev_stepb (num_ev hl) ?_ (fun k => by
        simp only [spec_poText.l0]
        rw [if_neg (by omega), if_pos (hs.2 h0)])
      exact ev_as (Ev.now _) (fun k => by rw [if_pos (by omega), if_pos (by rw [ByteArray.size_append, lit1]; omega)])
    · rw [if_neg h0]
      refine ev_stepb (num_ev hl) ?_ (fun k => by
        simp only [spec_poText.l0]
        rw [if_neg (by omega), if_neg (fun he => h0 (hs.1 he))])
      exact ev_as (Ev.now _) (fun k => by rw [if_pos (by omega), if_pos (by rw [ByteArray.size_append, lit1]; omega), ht])
  | d + 1, i, h => by
    have hi : i < R.length := by omega
    have hb := sj_bounds R i (by omega)
    obtain ⟨a, b, hc, ha, hbb, hg⟩ := pair_at hR hi
    have hda := dig_size a
    have hdb := dig_size b
    have hw : wrap64 ((i : Int) + 1) = ((i + 1 : Nat) : Int) := by rw [wrap64_id (by omega) (by omega)]; rfl
    have ih := poText_l0 hR hm hl d (i + 1) (by omega)
    have hpart : part R[i] = (dig a ++ (⟨#[60]⟩ : ByteArray)) ++ dig b := by rw [hg]; rfl
    have z0 : rd [(a : Int), (b : Int)] 0 = (a : Int) := rfl
    have z1 : rd [(a : Int), (b : Int)] 1 = (b : Int) := rfl
    have hsz : ((dig a ++ (⟨#[60]⟩ : ByteArray)) ++ dig b).size ≤ 5 := by rw [ByteArray.size_append, ByteArray.size_append, lit1]; omega
    by_cases h0 : i = 0
    · subst h0
      have hx : sj ((R.map part).take (0 + 1)) = sj ((R.map part).take 0) ++ ((dig a ++ (⟨#[60]⟩ : ByteArray)) ++ dig b) := by
        rw [take_next hi, hpart, List.take_zero, List.nil_append, sj_one, sj_nil, nil_app]
      rw [hx] at ih
      refine ev_stepb (num_ev ha) ?_ (fun k => by
        simp only [spec_poText.l0]
        rw [if_pos (by omega), if_pos (by omega), if_pos (by omega), if_neg (by omega), hc, if_pos (by simp), z0])
      refine ev_bind (num_ev hbb) ?_ (fun k => by rw [if_pos (by omega), if_pos (by simp), z1])
      exact ev_as ih (fun k => by rw [if_pos (by rw [ByteArray.size_append, lit1]; omega), if_pos (by omega), hw])
    · have hx : sj ((R.map part).take (i + 1)) = (sj ((R.map part).take i) ++ (⟨#[44]⟩ : ByteArray)) ++ ((dig a ++ (⟨#[60]⟩ : ByteArray)) ++ dig b) := by
        rw [take_next hi, hpart, sj_snoc _ (by intro he; have := congrArg List.length he; rw [List.length_take, List.length_map, List.length_nil] at this; omega)]
      rw [hx] at ih
      refine ev_stepb (num_ev ha) ?_ (fun k => by
        simp only [spec_poText.l0]
        rw [if_pos (by omega), if_pos (by omega), if_pos (by omega), if_pos (by omega), if_pos (by omega), hc, if_pos (by simp), z0])
      refine ev_bind (num_ev hbb) ?_ (fun k => by rw [if_pos (by omega), if_pos (by simp), z1])
      exact ev_as ih (fun k => by rw [if_pos (by rw [ByteArray.size_append, lit1]; omega), if_pos (by rw [ByteArray.size_append, lit1]; omega), hw])
theorem poText_ev {l : List Int} {P : List Nat} (hP : Good l P) : Ev (fun k => spec_poText.f k l) (text (grid (covF P) P.length 0) l.length) := by
  have hn := hP.n10
  have hl := hP.length
  have hR : Pairs (grid (covF P) P.length 0) := fun c hc => by
    obtain ⟨j, i, he, h1, h2, _⟩ := mem_grid hc
    exact ⟨j, i, he, by omega, by omega⟩
  unfold spec_poText.f
  exact Ev.bind (poPairs_ev hP) (poText_l0 hR (grid_length _ hn) (by omega) _ 0 (Nat.zero_add _))
theorem text_l0 {R : List (List Int)} (hR : Pairs R) (hm : R.length ≤ 100) {l : List Int} (hl : l.length ≤ 10) : ∀ (d i : Nat), i + d = R.length → Ev (fun k => impl_Poset_text.l0 k ((R.map part).take i) R (R.length : Int) (i : Int) l) (text R l.length)
  | 0, i, h => by
    have hb := sj_bounds R i (by omega)
    have ht : (R.map part).take i = R.map part := List.take_of_length_le (by rw [List.length_map]; omega)
    have hd := dig_size l.length
    have hn : impl_Poset_n.f l = some (l.length : Int) := rfl
    have hlen : ((R.map part).take i).length = R.length := by rw [ht, List.length_map]
    unfold text
    by_cases h0 : R = []
    · rw [if_pos h0]
      have hj : strings_Join.f [(⟨#[45]⟩ : ByteArray)] (⟨#[44]⟩ : ByteArray) = some (⟨#[45]⟩ : ByteArray) := by
        unfold strings_Join.f
        rw [if_pos (by decide), if_pos (by rw [List.map_cons, List.map_nil, Lib.join_one]; decide)]
        exact congrArg some (sj_one _)
      have hl0 : R.length = 0 := by rw [h0]; rfl
      refine ev_step (f := fun _ => some ((dig l.length ++ (⟨#[58]⟩ : ByteArray)) ++ (⟨#[45]⟩ : ByteArray))) (Ev.now _) (fun k => by
        simp only [impl_Poset_text.l0]
        rw [if_neg (by omega), if_pos (by omega), hn, Option.bind_some, itoa_is (by omega), Option.bind_some, if_pos (by omega), hj, Option.bind_some, if_pos (by rw [ByteArray.size_append, lit1]; have : (⟨#[45]⟩ : ByteArray).size = 1 := rfl; omega)])
    · rw [if_neg h0]
      have hl0 : R.length ≠ 0 := fun e => h0 (List.length_eq_zero_iff.1 e)
      have hj : strings_Join.f (R.map part) (⟨#[44]⟩ : ByteArray) = some (sj (R.map part)) := by
        rw [ht] at hb
        unfold strings_Join.f
        rw [if_pos (by rw [List.length_map]; omega), if_pos (by
          have h1 : (Lib.join ((R.map part).map (·.data.toList)) ((⟨#[44]⟩ : ByteArray).data.toList)).length = (sj (R.map part)).size := rfl
          rw [h1]
          omega)]
        rfl
      rw [ht] at hb hlen ⊢
      refine ev_step (f := fun _ => some ((dig l.length ++ (⟨#[58]⟩ : ByteArray)) ++ sj (R.map part))) (Ev.now _) (fun k => by
        simp only [impl_Poset_text.l0]
        rw [if_neg (by omega), if_neg (by omega), hn, Option.bind_some, itoa_is (by omega), Option.bind_some, if_pos (by omega), hj, Option.bind_some, if_pos (by rw [ByteArray.size_append, lit1]; omega)])
  | d + 1, i, h => by
    have hi : i < R.length := by omega
    obtain ⟨a, b, hc, ha, hbb, hg⟩ := pair_at hR hi
    have hda := dig_size a
    have hdb := dig_size b
    have hw : wrap64 ((i : Int) + 1) = ((i + 1 : Nat) : Int) := by rw [wrap64_id (by omega) (by omega)]; rfl
    have ih := text_l0 hR hm hl d (i + 1) (by omega)
    have hpart : part R[i] = (dig a ++ (⟨#[60]⟩ : ByteArray)) ++ dig b := by rw [hg]; rfl
    have z0 : rd [(a : Int), (b : Int)] 0 = (a : Int) := rfl
    have z1 : rd [(a : Int), (b : Int)] 1 = (b : Int) := rfl
    have hlen : ((R.map part).take i).length = i := by rw [List.length_take, List.length_map]; omega
    rw [take_next hi, hpart] at ih
    exact ev_step ih (fun k => by
      simp only [impl_Poset_text.l0]
      rw [if_pos (by omega), if_pos (by omega), if_pos (by omega), hc, if_pos (by simp), z0, itoa_is (by omega), Option.bind_some, if_pos (by omega), if_pos (by simp), z1, itoa_is (by omega), Option.bind_some, if_pos (by rw [ByteArray.size_append, lit1]; omega), if_pos (by omega), hw])
theorem text_ev {l : List Int} {P : List Nat} (hP : Good l P) : Ev (fun k => impl_Poset_text.f k l) (text (grid (covF P) P.length 0) l.length) := by
  have hn := hP.n10
  have hl := hP.length
  have hR : Pairs (grid (covF P) P.length 0) := fun c hc => by
    obtain ⟨j, i, he, h1, h2, _⟩ := mem_grid hc
    exact ⟨j, i, he, by omega, by omega⟩
  unfold impl_Poset_text.f
  exact Ev.bind (covers_ev hP) (text_l0 hR (grid_length _ hn) (by omega) _ 0 (Nat.zero_add _))
end Go.Proofs.YtkadihmhaoghfaaDoor.B
