/- What the law's helpers and the document's Sort compute, in plain lists. -/
import Derived.Test.YtljahmnilmjlpaaHSort
import Derived.Test.YtljahmnilmjlpaaPf12
import Derived.Test.YtljahmnilmjlpaaPf14
import Derived.Test.YtljahmnilmjlpaaPf15
import Derived.Test.YtljahmnilmjlpaaPf16
import Derived.Test.YtljahmnilmjlpaaHBack
namespace Go.Proofs.Ytljahmnilmjlpaa.P
open Go.RowKit Go.Proofs.YtljahmnilmjlpaaW.PrintWords Go.Proofs.YtljahmnilmjlpaaW.PrintLast Go.Proofs.Ytljahmnilmjlpaa.Hand
set_option linter.unusedVariables false

theorem rd23_nat' (l : List S23) (i : Nat) (h : i < l.length) : rd_T23 l (i : Int) = l[i] := by
  unfold rd_T23
  rw [Int.toNat_natCast, List.getD_eq_getElem?_getD, List.getElem?_eq_getElem h]
  rfl
theorem wrap_succ' (i : Nat) (h : i ≤ 3518437208883) : wrap64 ((i : Int) + 1) = ((i + 1 : Nat) : Int) := by unfold wrap64; omega
/-! ### sameRecords -/
theorem same_loop (l : List S23) (hl : l.length ≤ 3518437208883) (d : Nat) : ∀ (k i : Nat), i + d = l.length → d < k → winnowlaw10_sameRecords.l0 k l l (i : Int) = some true := by
  induction d with
  | zero =>
    intro k i hi hk
    obtain ⟨k, rfl⟩ : ∃ m, k = m + 1 := ⟨k - 1, by omega⟩
    rw [winnowlaw10_sameRecords.l0, if_neg (by omega)]
  | succ d ih =>
    intro k i hi hk
    obtain ⟨k, rfl⟩ : ∃ m, k = m + 1 := ⟨k - 1, by omega⟩
    have hw := wrap_succ' i (by omega)
    rw [winnowlaw10_sameRecords.l0, if_pos (by omega), if_pos (by omega), if_pos (by omega), if_neg (by simp), hw, ih k (i + 1) (by omega) (by omega)]
theorem same_eq (l : List S23) (hl : l.length ≤ 3518437208883) (k : Nat) (hk : l.length < k) : winnowlaw10_sameRecords.f k l l = some true := by
  unfold winnowlaw10_sameRecords.f
  rw [if_pos rfl]
  exact same_loop l hl l.length k 0 (by omega) (by omega)
/-! ### roomy -/
def mark : S23 := ⟨(-77), (⟨#[109, 97, 114, 107]⟩ : ByteArray), (⟨#[]⟩ : ByteArray)⟩
def room (l : List S23) : List S23 := l ++ List.replicate 64 mark
theorem room_length (l : List S23) : (room l).length = l.length + 64 := by simp [room]
theorem roomy_loop (l : List S23) (hl : l.length ≤ 3518437208780) (d : Nat) : ∀ (k i : Nat) (g : List S23), i + d = l.length + 64 → g.length = l.length + 64 → g.take i = (room l).take i → d < k →
    winnowlaw10_roomy.l0 k l g (i : Int) = some (room l) := by
  induction d with
  | zero =>
    intro k i g hi hg ht hk
    obtain ⟨k, rfl⟩ : ∃ m, k = m + 1 := ⟨k - 1, by omega⟩
    rw [winnowlaw10_roomy.l0, if_neg (by omega)]
    rw [List.take_of_length_le (by omega), List.take_of_length_le (by rw [room_length]; omega)] at ht
    rw [ht]
  | succ d ih =>
    intro k i g hi hg ht hk
    obtain ⟨k, rfl⟩ : ∃ m, k = m + 1 := ⟨k - 1, by omega⟩
    have hw := wrap_succ' i (by omega)
    have hrl := room_length l
    have step : ∀ (v : S23) (g' : List S23), g'.length = g.length → g'.take i = g.take i → (room l)[i]'(by omega) = v → (g'.set i v).take (i + 1) = (room l).take (i + 1) := by
      intro v g' hl' ht' hv
      have hs : (g'.set i v).take i = g'.take i := List.take_set_of_le (Nat.le_refl i)
      rw [List.take_succ_eq_append_getElem (by rw [List.length_set]; omega), List.take_succ_eq_append_getElem (by omega), hs, ht', ht, List.getElem_set_self, hv]
    rw [winnowlaw10_roomy.l0, if_pos (by omega), if_pos (Int.natCast_nonneg i), Option.bind_some, Int.toNat_natCast, hw]
    by_cases h : i < l.length
    · rw [if_pos (by omega)]
      refine ih k (i + 1) _ (by omega) (by rw [List.length_set, List.length_set]; exact hg) ?_ (by omega)
      refine step _ _ (by rw [List.length_set]) (List.take_set_of_le (Nat.le_refl i)) ?_
      rw [rd23_nat' l i h]
      simp [room, h]
    · rw [if_neg (by omega)]
      refine ih k (i + 1) _ (by omega) (by rw [List.length_set]; exact hg) ?_ (by omega)
      refine step mark g rfl rfl ?_
      simp only [room]
      rw [List.getElem_append_right (by omega), List.getElem_replicate]
theorem roomy_eq (l : List S23) (hl : l.length ≤ 3518437208780) (k : Nat) (hk : l.length + 64 < k) : winnowlaw10_roomy.f k l = some (room l) := by
  have hw : wrap64 ((l.length : Int) + 64) = ((l.length + 64 : Nat) : Int) := by unfold wrap64; omega
  unfold winnowlaw10_roomy.f
  rw [hw, if_pos (Int.natCast_nonneg _), Int.toNat_natCast, if_pos (by omega)]
  exact roomy_loop l hl (l.length + 64) k 0 _ (by omega) (by simp) (by simp) hk
/-! ### spoil -/
theorem spoil_l1 (m : Int) (d : Nat) : ∀ (k i : Nat) (g : List S23), i + d = 64 → g.length + d ≤ 3518437208883 → d < k → winnowlaw10_spoil.l1 k g m (i : Int) = some ((g.length + d : Nat) : Int) := by
  induction d with
  | zero =>
    intro k i g hi hg hk
    obtain ⟨k, rfl⟩ : ∃ m, k = m + 1 := ⟨k - 1, by omega⟩
    rw [winnowlaw10_spoil.l1, if_neg (by omega), Nat.add_zero]
  | succ d ih =>
    intro k i g hi hg hk
    obtain ⟨k, rfl⟩ : ∃ m, k = m + 1 := ⟨k - 1, by omega⟩
    have hw := wrap_succ' i (by omega)
    rw [winnowlaw10_spoil.l1, if_pos (by omega), if_pos (by omega), hw, ih k (i + 1) _ (by omega) (by rw [List.length_append, List.length_singleton]; omega) (by omega), List.length_append, List.length_singleton]
    congr 2
    omega
theorem spoil_l0 (m : Int) (n : Nat) (hn : n ≤ 3518437208800) (d : Nat) : ∀ (k i : Nat) (g : List S23), g.length = n → i + d = n → d + 66 < k → winnowlaw10_spoil.l0 k g m (i : Int) = some ((n + 64 : Nat) : Int) := by
  induction d with
  | zero =>
    intro k i g hg hi hk
    obtain ⟨k, rfl⟩ : ∃ m, k = m + 1 := ⟨k - 1, by omega⟩
    rw [winnowlaw10_spoil.l0, if_neg (by omega)]
    have := spoil_l1 m 64 k 0 g rfl (by omega) (by omega)
    rw [hg] at this
    exact this
  | succ d ih =>
    intro k i g hg hi hk
    obtain ⟨k, rfl⟩ : ∃ m, k = m + 1 := ⟨k - 1, by omega⟩
    have hw := wrap_succ' i (by omega)
    rw [winnowlaw10_spoil.l0, if_pos (by omega), if_pos (Int.natCast_nonneg i), hw]
    exact ih k (i + 1) _ (by rw [List.length_set]; exact hg) (by omega) (by omega)
theorem spoil_eq (l : List S23) (m : Int) (hl : l.length ≤ 3518437208800) (k : Nat) (hk : l.length + 66 < k) : winnowlaw10_spoil.f k l m = some ((l.length + 64 : Nat) : Int) := by
  unfold winnowlaw10_spoil.f
  exact spoil_l0 m l.length hl l.length k 0 l rfl (by omega) hk
/-! ### back -/
theorem back_loop (l : List S23) (hl : l.length ≤ 3518437208800) (d : Nat) : ∀ (k i : Nat) (g : List S23), g.length = l.length → 2 * i ≤ l.length + 1 → l.length ≤ i + d → d < k →
    (∀ m, (h : m < l.length) → g[m]? = some (if m < i ∨ l.length ≤ m + i then l[l.length - 1 - m]'(by omega) else l[m])) → winnowlaw10_back.l0 k g (i : Int) ((l.length : Int) - 1 - i) = some l.reverse := by
  have fin : ∀ (i : Nat) (g : List S23), g.length = l.length → l.length ≤ 2 * i + 1 → (∀ m, (h : m < l.length) → g[m]? = some (if m < i ∨ l.length ≤ m + i then l[l.length - 1 - m]'(by omega) else l[m])) → g = l.reverse := by
    intro i g hg h2 hm
    refine List.ext_getElem? (fun m => ?_)
    by_cases h : m < l.length
    · rw [hm m h, List.getElem?_reverse h]
      by_cases h3 : m < i ∨ l.length ≤ m + i
      · rw [if_pos h3, List.getElem?_eq_getElem (by omega)]
      · rw [if_neg h3]
        have : l.length - 1 - m = m := by omega
        rw [this, List.getElem?_eq_getElem h]
    · rw [List.getElem?_eq_none (by omega), List.getElem?_eq_none (by rw [List.length_reverse]; omega)]
  induction d with
  | zero =>
    intro k i g hg h2 hi hk hm
    obtain ⟨k, rfl⟩ : ∃ m, k = m + 1 := ⟨k - 1, by omega⟩
    rw [winnowlaw10_back.l0, if_neg (by omega), fin i g hg (by omega) hm]
  | succ d ih =>
    intro k i g hg h2 hi hk hm
    obtain ⟨k, rfl⟩ : ∃ m, k = m + 1 := ⟨k - 1, by omega⟩
    rw [winnowlaw10_back.l0]
    by_cases h : 2 * i + 1 < l.length
    · have hw := wrap_succ' i (by omega)
      have ej : (l.length : Int) - 1 - i = ((l.length - 1 - i : Nat) : Int) := by omega
      have hw2 : wrap64 (((l.length - 1 - i : Nat) : Int) - 1) = (l.length : Int) - 1 - ((i + 1 : Nat) : Int) := by unfold wrap64; omega
      rw [ej, if_pos (by omega), if_pos (Int.natCast_nonneg i), if_pos (by omega), if_pos (Int.natCast_nonneg _), if_pos (by omega), hw, hw2, Int.toNat_natCast, Int.toNat_natCast, rd23_nat' g i (by omega), rd23_nat' g (l.length - 1 - i) (by omega)]
      refine ih k (i + 1) _ (by rw [List.length_set, List.length_set]; exact hg) (by omega) (by omega) (by omega) ?_
      have gi : g[i]'(by omega) = l[i] := by
        have := hm i (by omega)
        rw [if_neg (by omega), List.getElem?_eq_getElem (by omega)] at this
        exact Option.some.inj this
      have gj : g[l.length - 1 - i]'(by omega) = l[l.length - 1 - i] := by
        have := hm (l.length - 1 - i) (by omega)
        rw [if_neg (by omega), List.getElem?_eq_getElem (by omega)] at this
        exact Option.some.inj this
      intro m hml
      rw [List.getElem?_set, List.getElem?_set]
      by_cases h1 : l.length - 1 - i = m
      · rw [if_pos h1, if_pos (by rw [List.length_set]; omega), if_pos (by omega)]
        subst h1
        have : l.length - 1 - (l.length - 1 - i) = i := by omega
        simp only [this]
        rw [← gi]
      · rw [if_neg h1]
        by_cases h3 : i = m
        · subst h3
          rw [if_pos rfl, if_pos (by omega), if_pos (by omega), ← gj]
        · rw [if_neg h3, hm m hml]
          by_cases h4 : m < i ∨ l.length ≤ m + i
          · rw [if_pos h4, if_pos (by omega)]
          · rw [if_neg h4, if_neg (by omega)]
    · rw [if_neg (by omega), fin i g hg (by omega) hm]
theorem back_eq (l : List S23) (hl : l.length ≤ 3518437208800) (k : Nat) (hk : l.length < k) : winnowlaw10_back.f k l = some l.reverse := by
  unfold winnowlaw10_back.f
  have hw : wrap64 ((l.length : Int) - 1) = (l.length : Int) - 1 - ((0 : Nat) : Int) := by unfold wrap64; omega
  rw [hw]
  exact back_loop l hl l.length k 0 l rfl (by omega) (by omega) hk (fun m h => by rw [if_neg (by omega), List.getElem?_eq_getElem h])
/-! ### the document's Sort -/
theorem RefCompare_eq (x y : S23) : winnowref10_Compare.f x.f0 x.f1 x.f2 y.f0 y.f1 y.f2 = some (cmpR x y) := by
  unfold winnowref10_Compare.f cmpR cmpL
  by_cases h : x.f0 = y.f0
  · rw [if_pos h, if_neg (show ¬ x.f0 < y.f0 by omega), if_neg (show ¬ x.f0 > y.f0 by omega)]
    split
    · rfl
    · split <;> rfl
  · rw [if_neg h]
    by_cases h2 : x.f0 < y.f0
    · rw [if_pos h2, if_pos h2]
    · rw [if_neg h2, if_neg h2, if_pos (by omega)]
theorem rises_take_le {x : S23} (o : List S23) (p : Nat) (ho : St.Rises leR o) (hp : p < o.length) (hx : leR o[p] x = true) : ∀ y ∈ o.take (p + 1), leR y x = true := by
  induction o generalizing p with
  | nil => intro y hy; simp at hy
  | cons z o ih =>
    intro y hy
    rw [List.take_succ_cons] at hy
    rcases List.mem_cons.1 hy with rfl | hy
    · cases p with
      | zero => exact hx
      | succ p => exact ordR.trans _ _ _ (ho.1 _ (List.getElem_mem (by simp at hp; omega))) hx
    · cases p with
      | zero => simp at hy
      | succ p => exact ih p ho.2 (by simp at hp; omega) hx y hy
theorem ref_l1 (l : List S23) (o : List S23) (i : Nat) (hi : i < l.length) (hl : l.length ≤ 3518437208800) (hol : o.length < 3518437208800) (ho : St.Rises leR o) (p : Nat) : ∀ k, p ≤ o.length → (∀ y ∈ o.drop p, leR y l[i] = false) →
    ∃ k', k ≤ k' ∧ winnowref10_Sort.l1 (k + p + 1) l o (i : Int) (p : Int) = winnowref10_Sort.l0 k' l (St.merge leR o [l[i]]) ((i + 1 : Nat) : Int) := by
  have hil : (i : Int) < (l.length : Int) := Int.ofNat_lt.2 hi
  have hw := wrap_succ' i (by omega)
  have place : ∀ p : Nat, p ≤ o.length → (∀ y ∈ o.take p, leR y l[i] = true) → (∀ y ∈ o.drop p, leR y l[i] = false) → (o.take p ++ [l[i]]) ++ o.drop p = St.merge leR o [l[i]] := by
    intro p hp h1 h2
    have := St.merge_place l[i] _ _ h1 h2
    rw [List.take_append_drop] at this
    rw [this, List.append_assoc]
    rfl
  induction p with
  | zero =>
    intro k hp hq
    refine ⟨k, Nat.le_refl _, ?_⟩
    rw [winnowref10_Sort.l1, if_neg (by omega), if_pos (by omega), if_pos (by omega), Option.bind_some, Int.toNat_natCast, if_pos (by rw [List.length_nil, List.length_take]; omega), Option.bind_some, if_pos (Int.natCast_nonneg i), if_pos hil,
      if_pos (by rw [List.nil_append, List.length_take]; omega), Option.bind_some, Option.bind_some, if_pos (by rw [List.nil_append, List.length_append, List.length_take, List.length_drop, List.length_singleton]; omega), hw, rd23_nat' l i hi, List.nil_append]
    rw [← place 0 hp (fun y hy => by simp at hy) hq]
  | succ p ih =>
    intro k hp hq
    have hpo : p < o.length := by omega
    have hw2 : wrap64 (((p + 1 : Nat) : Int) - 1) = (p : Int) := by unfold wrap64; omega
    rw [winnowref10_Sort.l1, if_pos (by omega), hw2, if_pos (Int.natCast_nonneg p), if_pos (by omega), if_pos (Int.natCast_nonneg i), if_pos hil, rd23_nat' o p hpo, rd23_nat' l i hi, RefCompare_eq, Option.bind_some]
    by_cases hc : cmpR o[p] l[i] > 0
    · rw [if_pos hc]
      have hf : leR o[p] l[i] = false := decide_eq_false (by omega)
      exact ih k (by omega) (fun y hy => by
        rw [List.drop_eq_getElem_cons hpo] at hy
        rcases List.mem_cons.1 hy with rfl | hy
        · exact hf
        · exact hq y hy)
    · rw [if_neg hc]
      have hf : leR o[p] l[i] = true := decide_eq_true (by omega)
      refine ⟨k + (p + 1), by omega, ?_⟩
      rw [if_pos (by omega), if_pos (by omega), Option.bind_some, Int.toNat_natCast, if_pos (by rw [List.length_nil, List.length_take]; omega), Option.bind_some,
        if_pos (by rw [List.nil_append, List.length_take]; omega), Option.bind_some, Option.bind_some, if_pos (by rw [List.nil_append, List.length_append, List.length_take, List.length_drop, List.length_singleton]; omega), hw, List.nil_append]
      rw [← place (p + 1) hp (rises_take_le o p ho hpo hf) hq]
theorem isort_take_succ (l : List S23) (i : Nat) (hi : i < l.length) : St.isort leR (l.take (i + 1)) = St.merge leR (St.isort leR (l.take i)) [l[i]] := by
  rw [List.take_succ_eq_append_getElem hi]
  unfold St.isort
  rw [List.foldl_append]
  rfl
theorem ref_l0 (l : List S23) (hl : l.length ≤ 3518437208800) (M : Nat) (hM : l.length + 2 ≤ M) (d : Nat) : ∀ (k i : Nat), i + d = l.length → d * M < k → winnowref10_Sort.l0 k l (St.isort leR (l.take i)) (i : Int) = some (St.isort leR l) := by
  induction d with
  | zero =>
    intro k i hi hk
    obtain ⟨k, rfl⟩ : ∃ m, k = m + 1 := ⟨k - 1, by omega⟩
    rw [winnowref10_Sort.l0, if_neg (by omega), List.take_of_length_le (by omega)]
  | succ d ih =>
    intro k i hi hk
    rw [Nat.succ_mul] at hk
    obtain ⟨k, rfl⟩ : ∃ m, k = m + i + 1 + 1 := ⟨k - i - 2, by omega⟩
    have hlen : (St.isort leR (l.take i)).length = i := by rw [St.isort_length, List.length_take]; omega
    rw [winnowref10_Sort.l0, if_pos (by omega), hlen]
    obtain ⟨k', hk', e⟩ := ref_l1 l (St.isort leR (l.take i)) i (by omega) hl (by omega) (St.isort_rises ordR _) i k (by omega) (fun y hy => by rw [List.drop_of_length_le (by omega)] at hy; cases hy)
    rw [e, ← isort_take_succ l i (by omega)]
    exact ih k' (i + 1) (by omega) (by omega)
theorem RefSort_eq (l : List S23) (hl : l.length ≤ 3518437208800) (k : Nat) (hk : l.length * (l.length + 2) < k) : winnowref10_Sort.f k l = some (St.isort leR l) := by
  unfold winnowref10_Sort.f
  have := ref_l0 l hl (l.length + 2) (Nat.le_refl _) l.length k 0 (by omega) hk
  rw [List.take_zero] at this
  exact this
end Go.Proofs.Ytljahmnilmjlpaa.P
