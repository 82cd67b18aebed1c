/- merged and works, in plain lists, without a bound of bulk. -/
import Derived.Test.YtljahmnilmjlpaaHSort
import Derived.Test.YtljahmnilmjlpaaPf18
import Derived.Test.YtljahmnilmjlpaaPf19
import Derived.Test.YtljahmnilmjlpaaSortPlain
namespace Go.Proofs.Ytljahmnilmjlpaa.P
open Go.RowKit Go.Proofs.YtljahmnilmjlpaaW.PrintWords Go.Proofs.YtljahmnilmjlpaaW.PrintLast Go.Proofs.Ytljahmnilmjlpaa.Hand
set_option linter.unusedVariables false

theorem Compare_k (x y : S23) (k : Nat) (hx : x.f1.size ≤ 140737488351232) (hk : 140737488351232 < k) : sortbuf_Compare.f k x.f0 x.f1 x.f2 y.f0 y.f1 y.f2 = some (cmpR x y) := by
  unfold sortbuf_Compare.f cmpR
  rw [nums_Compare_eq x.f1 y.f1 (by omega) _ (by omega)]
  split
  · rfl
  · split <;> rfl
theorem wrap_succ (i : Nat) (h : i ≤ 3518437208883) : wrap64 ((i : Int) + 1) = ((i + 1 : Nat) : Int) := by unfold wrap64; omega
theorem l1_A (a b acc : List S23) (i j k : Nat) (hi : i < a.length) (hj : j < b.length) (hla : a.length ≤ 3518437208800) (hx : a[i].f1.size ≤ 140737488351232) (hk : 140737488351232 < k) (hacc : acc.length < 3518437208883) (hc : cmpR a[i] b[j] ≤ 0) :
    winnowlaw10_merged.l1 (k + 1) a b acc (i : Int) (j : Int) = winnowlaw10_merged.l1 k a b (acc ++ [a[i]]) ((i + 1 : Nat) : Int) (j : Int) := by
  have h1 : (i : Int) < (a.length : Int) := Int.ofNat_lt.2 hi
  have h2 : (j : Int) < (b.length : Int) := Int.ofNat_lt.2 hj
  have hw := wrap_succ i (by omega)
  rw [winnowlaw10_merged.l1, if_pos h1, if_pos (Int.natCast_nonneg i), if_pos (Int.natCast_nonneg j), if_pos h2, rd23_nat' a i hi, rd23_nat' b j hj, Compare_k _ _ k hx hk, Option.bind_some, if_pos hc, if_pos hacc, hw]
theorem l1_B (a b acc : List S23) (i j k : Nat) (hi : i < a.length) (hj : j < b.length) (hlb : b.length ≤ 3518437208800) (hx : a[i].f1.size ≤ 140737488351232) (hk : 140737488351232 < k) (hacc : acc.length < 3518437208883) (hc : ¬ cmpR a[i] b[j] ≤ 0) :
    winnowlaw10_merged.l1 (k + 1) a b acc (i : Int) (j : Int) = winnowlaw10_merged.l0 k a b (acc ++ [b[j]]) (i : Int) ((j + 1 : Nat) : Int) := by
  have h1 : (i : Int) < (a.length : Int) := Int.ofNat_lt.2 hi
  have h2 : (j : Int) < (b.length : Int) := Int.ofNat_lt.2 hj
  have hw := wrap_succ j (by omega)
  rw [winnowlaw10_merged.l1, if_pos h1, if_pos (Int.natCast_nonneg i), if_pos (Int.natCast_nonneg j), if_pos h2, rd23_nat' a i hi, rd23_nat' b j hj, Compare_k _ _ k hx hk, Option.bind_some, if_neg hc, if_pos hacc, hw]
theorem l1_C (a b acc : List S23) (i j k : Nat) (hi : ¬ i < a.length) (hj : j < b.length) (hlb : b.length ≤ 3518437208800) (hacc : acc.length < 3518437208883) :
    winnowlaw10_merged.l1 (k + 1) a b acc (i : Int) (j : Int) = winnowlaw10_merged.l0 k a b (acc ++ [b[j]]) (i : Int) ((j + 1 : Nat) : Int) := by
  have h1 : ¬ (i : Int) < (a.length : Int) := fun h => hi (Int.ofNat_lt.1 h)
  have h2 : (j : Int) < (b.length : Int) := Int.ofNat_lt.2 hj
  have hw := wrap_succ j (by omega)
  rw [winnowlaw10_merged.l1, if_neg h1, if_pos (Int.natCast_nonneg j), if_pos h2, rd23_nat' b j hj, if_pos hacc, hw]
theorem l0_D (a b acc : List S23) (i j k : Nat) (hj : j < b.length) :
    winnowlaw10_merged.l0 (k + 1) a b acc (i : Int) (j : Int) = winnowlaw10_merged.l1 k a b acc (i : Int) (j : Int) := by
  have h2 : (j : Int) < (b.length : Int) := Int.ofNat_lt.2 hj
  rw [winnowlaw10_merged.l0, if_pos h2]
theorem l0_E (a b acc : List S23) (i j k : Nat) (hi : i ≤ a.length) (hj : ¬ j < b.length) (hacc : acc.length + (a.length - i) < 3518437208883) :
    winnowlaw10_merged.l0 (k + 1) a b acc (i : Int) (j : Int) = some (acc ++ a.drop i) := by
  have h2 : ¬ (j : Int) < (b.length : Int) := fun h => hj (Int.ofNat_lt.1 h)
  have h3 : (i : Int) ≤ (a.length : Int) := Int.ofNat_le.2 hi
  rw [winnowlaw10_merged.l0, if_neg h2, if_pos (Int.natCast_nonneg i), if_pos h3, Option.bind_some, Int.toNat_natCast, if_pos (by rw [List.length_drop]; exact hacc)]
theorem mg_loop (a b : List S23) (ha : ∀ x ∈ a, x.f1.size ≤ 140737488351232) (hla : a.length ≤ 3518437208800) (hlb : b.length ≤ 3518437208800) (d : Nat) : ∀ (k i j : Nat) (acc : List S23), i ≤ a.length → j ≤ b.length → (a.length - i) + (b.length - j) = d → acc.length + d ≤ 3518437208882 → 2 * d + 140737488351300 < k →
    winnowlaw10_merged.l0 k a b acc (i : Int) (j : Int) = some (acc ++ St.merge leR (a.drop i) (b.drop j)) ∧ (j < b.length → winnowlaw10_merged.l1 k a b acc (i : Int) (j : Int) = some (acc ++ St.merge leR (a.drop i) (b.drop j))) := by
  induction d with
  | zero =>
    intro k i j acc hi hj hd hacc hk
    obtain ⟨k, rfl⟩ : ∃ m, k = m + 1 := ⟨k - 1, by omega⟩
    refine ⟨?_, fun h => by omega⟩
    rw [l0_E a b acc i j k hi (by omega) (by omega), List.drop_of_length_le (l := b) (by omega), St.merge_nil_right]
  | succ d ih =>
    have main : ∀ (k i j : Nat) (acc : List S23), i ≤ a.length → j < b.length → (a.length - i) + (b.length - j) = d + 1 → acc.length + (d + 1) ≤ 3518437208882 → 2 * d + 140737488351301 < k → winnowlaw10_merged.l1 k a b acc (i : Int) (j : Int) = some (acc ++ St.merge leR (a.drop i) (b.drop j)) := by
      intro k i j acc hi hj hd hacc hk
      obtain ⟨k, rfl⟩ : ∃ m, k = m + 1 := ⟨k - 1, by omega⟩
      have hal : ∀ x : S23, (acc ++ [x]).length + d ≤ 3518437208882 := fun x => by rw [List.length_append, List.length_singleton]; omega
      by_cases h : i < a.length
      · have hxx := ha _ (List.getElem_mem h)
        by_cases hc : cmpR a[i] b[j] ≤ 0
        · rw [l1_A a b acc i j k h hj hla hxx (by omega) (by omega) hc, (ih k (i + 1) j (acc ++ [a[i]]) (by omega) (by omega) (by omega) (hal _) (by omega)).2 hj, List.drop_eq_getElem_cons h, List.drop_eq_getElem_cons hj, St.merge_cons, if_pos (show leR a[i] b[j] = true from decide_eq_true hc), List.append_assoc]
          rfl
        · rw [l1_B a b acc i j k h hj hlb hxx (by omega) (by omega) hc, (ih k i (j + 1) (acc ++ [b[j]]) (by omega) (by omega) (by omega) (hal _) (by omega)).1, List.drop_eq_getElem_cons h, List.drop_eq_getElem_cons hj, St.merge_cons, if_neg (show ¬ leR a[i] b[j] = true from fun e => hc (of_decide_eq_true e)), List.append_assoc]
          rfl
      · rw [l1_C a b acc i j k h hj hlb (by omega), (ih k i (j + 1) (acc ++ [b[j]]) (by omega) (by omega) (by omega) (hal _) (by omega)).1, List.append_assoc, List.drop_of_length_le (l := a) (by omega), St.merge_nil_left, St.merge_nil_left, List.drop_eq_getElem_cons hj]
        rfl
    intro k i j acc hi hj hd hacc hk
    refine ⟨?_, fun h => main k i j acc hi h hd hacc (by omega)⟩
    obtain ⟨k, rfl⟩ : ∃ m, k = m + 1 := ⟨k - 1, by omega⟩
    by_cases h : j < b.length
    · rw [l0_D a b acc i j k h, main k i j acc hi h hd hacc (by omega)]
    · rw [l0_E a b acc i j k hi h (by omega), List.drop_of_length_le (l := b) (by omega), St.merge_nil_right]
theorem mg_eq (a b : List S23) (ha : ∀ x ∈ a, x.f1.size ≤ 140737488351232) (hla : a.length ≤ 3518437208800) (hlb : b.length ≤ 3518437208800) (hl : a.length + b.length ≤ 3518437208880) (k : Nat) (hk : 2 * (a.length + b.length) + 140737488351300 < k) : winnowlaw10_merged.f k a b = some (St.merge leR a b) := by
  unfold winnowlaw10_merged.f
  have := (mg_loop a b ha hla hlb _ k 0 0 [] (Nat.zero_le _) (Nat.zero_le _) rfl (by rw [List.length_nil]; omega) (by omega)).1
  rw [List.nil_append, List.drop_zero, List.drop_zero] at this
  exact this
theorem isort_mem (l : List S23) (x : S23) (h : x ∈ St.isort leR l) : x ∈ l := by
  have : x ∈ St.cls leR x (St.isort leR l) := by
    unfold St.cls
    rw [List.mem_filter]
    exact ⟨h, by rw [ordR.refl x]; rfl⟩
  rw [St.isort_cls ordR] at this
  exact (St.cls_mem this).1
theorem Sort_any (l : List S23) (hl : l.length ≤ 3518437208882) (hx : ∀ x ∈ l, x.f1.size ≤ 140737488351232) : sortbuf_Sort.f l = some (St.isort leR l) := by
  unfold sortbuf_Sort.f
  rw [if_pos ⟨hl, hx⟩]
theorem works_eq : winnowlaw10_works.f = some true := by
  unfold winnowlaw10_works.f
  have h12 : leR ⟨1, ⟨#[98]⟩, ⟨#[]⟩⟩ ⟨0, ⟨#[122]⟩, ⟨#[49]⟩⟩ = false := rfl
  have h13 : leR ⟨1, ⟨#[98]⟩, ⟨#[]⟩⟩ ⟨0, ⟨#[122]⟩, ⟨#[50]⟩⟩ = false := rfl
  have h23 : leR ⟨0, ⟨#[122]⟩, ⟨#[49]⟩⟩ ⟨0, ⟨#[122]⟩, ⟨#[50]⟩⟩ = true := (leR_iff _ _).2 (.inr ⟨rfl, by rw [ByteArray.toList_eq]; rfl⟩)
  rw [Sort_any _ (by simp) (fun x hx => by
    rcases List.mem_cons.1 hx with rfl | hx
    · decide
    rcases List.mem_cons.1 hx with rfl | hx
    · decide
    rcases List.mem_cons.1 hx with rfl | hx
    · decide
    cases hx), Option.bind_some]
  have e : St.isort leR [(⟨1, (⟨#[98]⟩ : ByteArray), (⟨#[]⟩ : ByteArray)⟩ : S23), (⟨0, (⟨#[122]⟩ : ByteArray), (⟨#[49]⟩ : ByteArray)⟩ : S23), (⟨0, (⟨#[122]⟩ : ByteArray), (⟨#[50]⟩ : ByteArray)⟩ : S23)] = [⟨0, ⟨#[122]⟩, ⟨#[49]⟩⟩, ⟨0, ⟨#[122]⟩, ⟨#[50]⟩⟩, ⟨1, ⟨#[98]⟩, ⟨#[]⟩⟩] := by
    unfold St.isort
    rw [List.foldl_cons, List.foldl_cons, List.foldl_cons, List.foldl_nil, St.merge_nil_left, St.merge_cons, if_neg (by rw [h12]; decide), St.merge_nil_right, St.merge_cons, if_pos h23, St.merge_cons, if_neg (by rw [h13]; decide), St.merge_nil_right]
  rw [e]
  rw [if_pos (by decide), if_pos (by decide), if_pos (by rw [ByteArray.toList_eq]; rfl), if_pos (by decide), if_pos (by rw [ByteArray.toList_eq]; rfl), if_pos (by decide)]
  rfl
end Go.Proofs.Ytljahmnilmjlpaa.P
