/- Several texts laid together (wip/tools/merge2.py): RefBounds, HBounds, Pf10, HRoomy, Pf16. -/
import Derived.Test.YtbjlfenappnccaaMB5
import Derived.Test.YtbjlfenappnccaaMB6
import Derived.Test.YtbjlfenappnccaaMB2
import Derived.Outline
import Derived.Test.YtbjlfenappnccaaMB1
section
/- The document's Bounds is boundsOf. -/
namespace Go.Proofs.Ytbjlfenappnccaa.P
open Go.RowKit Go.Proofs.YtbjlfenappnccaaW.PrintWords Go.Proofs.YtbjlfenappnccaaW.PrintLast Go.Proofs.Ytbjlfenappnccaa.Hand
set_option linter.unusedVariables false
set_option linter.unusedSimpArgs false

/-- x laid into s at place p -/
def putAt (s : List ByteArray) (p : Nat) (x : ByteArray) : List ByteArray := s.take p ++ x :: s.drop p
theorem putAt_perm (s : List ByteArray) (p : Nat) (x : ByteArray) : (putAt s p x).Perm (x :: s) := by
  unfold putAt
  refine List.perm_middle.trans ?_
  rw [List.take_append_drop]
theorem putAt_length (s : List ByteArray) (p : Nat) (x : ByteArray) : (putAt s p x).length = s.length + 1 := (putAt_perm s p x).length_eq
theorem putAt_sorted (l : List ByteArray) (p : Nat) (x : ByteArray) (hp : p ≤ (sortB l).length) (h1 : ∀ j, (h : j < (sortB l).length) → j < p → leB (sortB l)[j] x = true) (h2 : ∀ j, (h : j < (sortB l).length) → p ≤ j → leB x (sortB l)[j] = true) :
    putAt (sortB l) p x = sortB (l ++ [x]) := by
  symm
  refine sortB_unique ?_ ?_
  · exact ((putAt_perm _ _ _).trans ((sortB_perm l).cons x)).trans (List.perm_append_singleton x l).symm
  · unfold putAt
    have hs := sortB_sorted l
    rw [List.pairwise_append]
    refine ⟨hs.sublist (List.take_sublist _ _), ?_, ?_⟩
    · rw [List.pairwise_cons]
      refine ⟨fun b hb => ?_, hs.sublist (List.drop_sublist _ _)⟩
      obtain ⟨j, hj, rfl⟩ := List.getElem_of_mem hb
      rw [List.getElem_drop]
      exact h2 (p + j) _ (by omega)
    · intro a ha b hb
      obtain ⟨i, hi, rfl⟩ := List.getElem_of_mem ha
      rw [List.getElem_take]
      have hi2 : i < p := by rw [List.length_take] at hi; omega
      rcases List.mem_cons.1 hb with rfl | hb
      · exact h1 i _ hi2
      · obtain ⟨j, hj, rfl⟩ := List.getElem_of_mem hb
        rw [List.getElem_drop]
        exact sortB_le l i (p + j) (by omega) (by rw [List.length_drop] at hj; omega)
theorem putAt_shift (s : List ByteArray) (q : Nat) (z : ByteArray) (hq : q < s.length) : (putAt s (q + 1) z).set (q + 1) s[q] = putAt s q s[q] := by
  unfold putAt
  have hl : (s.take (q + 1)).length = q + 1 := by rw [List.length_take]; omega
  rw [List.set_append_right _ _ (by omega), hl, Nat.sub_self, List.set_cons_zero, List.take_succ_eq_append_getElem hq, List.append_assoc, List.singleton_append, ← List.drop_eq_getElem_cons hq]
theorem putAt_get (s : List ByteArray) (p : Nat) (z : ByteArray) (j : Nat) (hp : p ≤ s.length) (hj : j < p) : (putAt s p z)[j]'(by rw [putAt_length]; omega) = s[j]'(by omega) := by
  unfold putAt
  rw [List.getElem_append_left (by rw [List.length_take]; omega), List.getElem_take]
theorem putAt_set (s : List ByteArray) (p : Nat) (z x : ByteArray) (hp : p ≤ s.length) : (putAt s p z).set p x = putAt s p x := by
  unfold putAt
  have hl : (s.take p).length = p := by rw [List.length_take]; omega
  rw [List.set_append_right _ _ (by omega), hl, Nat.sub_self, List.set_cons_zero]

theorem sorted_l2 (x0 s : List ByteArray) (i p : Nat) (hi : i < x0.length) (hx : x0.length ≤ 65536) (hp : p ≤ s.length) (hs : s.length ≤ 65536) (d : Nat) : ∀ (k : Nat) (z : ByteArray), p + d ≤ s.length →
    winnowref14_sorted.l2 (k + d + 1) x0 (putAt s (p + d) z) (i : Int) (p : Int) ((p + d : Nat) : Int) = winnowref14_sorted.l0 k x0 (putAt s p x0[i]) ((i + 1 : Nat) : Int) := by
  induction d with
  | zero =>
    intro k z hd
    have hl := putAt_length s (p + 0) z
    rw [winnowref14_sorted.l2, if_neg (by omega), if_pos (by omega), if_pos (by omega), if_pos (by omega), if_pos (by omega), rdb_nat x0 i hi, wrap_succB i (by omega), Int.toNat_natCast, Nat.add_zero, putAt_set s p z _ hp]
  | succ d ih =>
    intro k z hd
    have hl := putAt_length s (p + (d + 1)) z
    rw [show k + (d + 1) + 1 = (k + d + 1) + 1 by omega, show p + (d + 1) = (p + d) + 1 by omega] at *
    rw [winnowref14_sorted.l2, if_pos (by omega), wrap_pred (p + d) (by omega), if_pos (by omega), if_pos (by omega), if_pos (by omega), if_pos (by omega), Int.toNat_natCast, rdb_nat _ (p + d) (by omega),
      putAt_get s (p + d + 1) z (p + d) (by omega) (by omega), putAt_shift s (p + d) z (by omega)]
    exact ih k _ (by omega)
theorem sorted_l1 (x0 l : List ByteArray) (i : Nat) (hi : i < x0.length) (hx : x0.length ≤ 65536) (hb : ∀ b ∈ x0, b.size ≤ 1024) (hl : l = x0.take i) (d : Nat) : ∀ (k p : Nat), p = d → p ≤ (sortB l).length → (∀ j, (h : j < (sortB l).length) → p ≤ j → leB x0[i] (sortB l)[j] = true) → 2000 + 65540 < k →
    ∃ p2 d2, p2 ≤ d ∧ p2 + d2 = (sortB l).length ∧ winnowref14_sorted.l1 (k + 2 * d) x0 (sortB l) (i : Int) (p : Int) = winnowref14_sorted.l0 (k + 2 * d - (d - p2) - 3 - d2) x0 (sortB (l ++ [x0[i]])) ((i + 1 : Nat) : Int) := by
  have hsl := sortB_length l
  have hll : l.length = i := by rw [hl, List.length_take]; omega
  have fin : ∀ (k p : Nat), p ≤ (sortB l).length → (∀ j, (h : j < (sortB l).length) → p ≤ j → leB x0[i] (sortB l)[j] = true) → (∀ j, (h : j < (sortB l).length) → j < p → leB (sortB l)[j] x0[i] = true) → 65540 < k →
      winnowref14_sorted.j2 k x0 (sortB l) (i : Int) (p : Int) = winnowref14_sorted.l0 (k - 2 - ((sortB l).length - p)) x0 (sortB (l ++ [x0[i]])) ((i + 1 : Nat) : Int) := by
    intro k p hp h2 h1 hk
    obtain ⟨d3, hd3⟩ : ∃ d3, p + d3 = (sortB l).length := ⟨(sortB l).length - p, by omega⟩
    obtain ⟨k, rfl⟩ : ∃ m, k = m + d3 + 2 := ⟨k - (d3 + 2), by omega⟩
    rw [show k + d3 + 2 = (k + d3 + 1) + 1 by omega, winnowref14_sorted.j2, if_pos (by omega), Option.bind_some]
    have e1 : wrap64 (((sortB l ++ [(⟨#[]⟩ : ByteArray)]).length : Int) - 1) = ((p + d3 : Nat) : Int) := by rw [List.length_append, List.length_singleton, hd3]; exact wrap_pred _ (by omega)
    have e2 : sortB l ++ [(⟨#[]⟩ : ByteArray)] = putAt (sortB l) (p + d3) ⟨#[]⟩ := by unfold putAt; rw [hd3, List.take_length, List.drop_length]
    rw [e1, e2, sorted_l2 x0 (sortB l) i p hi hx hp (by omega) d3 k _ (by omega), putAt_sorted l p _ hp h1 h2]
    congr 1
    omega
  induction d with
  | zero =>
    intro k p hp0 hp h2 hk
    subst hp0
    obtain ⟨k, rfl⟩ : ∃ m, k = m + 1 := ⟨k - 1, by omega⟩
    refine ⟨0, (sortB l).length, Nat.le_refl _, by omega, ?_⟩
    rw [Nat.mul_zero, Nat.add_zero, winnowref14_sorted.l1, if_neg (by decide), fin k 0 (Nat.zero_le _) h2 (fun j _ h => absurd h (Nat.not_lt_zero _)) (by omega)]
    congr 1
  | succ d ih =>
    intro k p hp0 hp h2 hk
    subst hp0
    have hz : ∀ b ∈ sortB l, b.size ≤ 1024 := fun b hb' => hb b (List.mem_of_mem_take (hl ▸ sortB_mem.1 hb'))
    have hz1 := hz _ (List.getElem_mem (show d < (sortB l).length by omega))
    have e0 : k + 2 * (d + 1) = (k + 2 * d + 1) + 1 := by omega
    rw [e0, winnowref14_sorted.l1, if_pos (by omega), wrap_pred d (by omega), if_pos (by omega), if_pos (by omega), if_pos (by omega), if_pos (by omega), rdb_nat _ d (by omega), rdb_nat x0 i hi, RefCompare_eq _ _ (by omega) _ (by omega), Option.bind_some]
    by_cases hc : cmpL (sortB l)[d].toList x0[i].toList > 0
    · rw [if_pos hc]
      have hle : leB x0[i] (sortB l)[d] = true := by
        have ht := leB_total x0[i] (sortB l)[d]
        rcases Bool.or_eq_true _ _ ▸ ht with h | h
        · exact h
        · have := (leB_iff _ _).1 h; omega
      obtain ⟨p2, d2, q1, q2, q3⟩ := ih (k + 1) d rfl (by omega) (fun j h hj => by
        rcases Nat.eq_or_lt_of_le hj with e | e
        · subst e; exact hle
        · exact h2 j h (by omega)) (by omega)
      refine ⟨p2, d2, by omega, q2, ?_⟩
      rw [show k + 2 * d + 1 = k + 1 + 2 * d by omega, q3]
      congr 1
      omega
    · rw [if_neg hc]
      have hle : leB (sortB l)[d] x0[i] = true := (leB_iff _ _).2 (by omega)
      refine ⟨d + 1, (sortB l).length - (d + 1), Nat.le_refl _, by omega, ?_⟩
      rw [fin (k + 2 * d + 1) (d + 1) hp h2 (fun j h hj => leB_trans _ _ _ (sortB_le l j d (by omega) (by omega)) hle) (by omega)]
      congr 1
      omega
theorem sorted_l0 (x0 : List ByteArray) (hx : x0.length ≤ 65536) (hb : ∀ b ∈ x0, b.size ≤ 1024) (d : Nat) : ∀ (k i : Nat), i + d = x0.length → 400000 * (d + 1) < k → winnowref14_sorted.l0 k x0 (sortB (x0.take i)) (i : Int) = some (sortB x0) := by
  induction d with
  | zero =>
    intro k i hi hk
    obtain ⟨k, rfl⟩ : ∃ m, k = m + 1 := ⟨k - 1, by omega⟩
    rw [winnowref14_sorted.l0, if_neg (by omega), List.take_of_length_le (by omega)]
  | succ d ih =>
    intro k i hi hk
    have h : i < x0.length := by omega
    have hsl := sortB_length (x0.take i)
    have hll : (x0.take i).length = i := by rw [List.length_take]; omega
    obtain ⟨k, rfl⟩ : ∃ m, k = m + 2 * i + 1 := ⟨k - (2 * i + 1), by omega⟩
    rw [winnowref14_sorted.l0, if_pos (by omega)]
    obtain ⟨p2, d2, q1, q2, q3⟩ := sorted_l1 x0 (x0.take i) i h hx hb rfl i k (sortB (x0.take i)).length (by omega) (Nat.le_refl _) (fun j h1 h2 => by omega) (by omega)
    rw [q3, show x0.take i ++ [x0[i]] = x0.take (i + 1) from (List.take_succ_eq_append_getElem h).symm]
    exact ih _ (i + 1) (by omega) (by omega)
theorem sorted_eq (x0 : List ByteArray) (hx : x0.length ≤ 65536) (hb : ∀ b ∈ x0, b.size ≤ 1024) (k : Nat) (hk : 400000 * 65540 < k) : winnowref14_sorted.f k x0 = some (sortB x0) := by
  have := sorted_l0 x0 hx hb x0.length k 0 (by omega) (by omega)
  rw [List.take_zero, show sortB [] = [] from by unfold sortB; simp] at this
  exact this
theorem RB_l1 (s : List ByteArray) (hs : s.length ≤ 65536) (n : Nat) (hn : 1 ≤ n ∧ n ≤ 65535) (d : Nat) : ∀ (k i : Nat), i + d + 1 = n → d < k → winnowref14_Bounds.l1 k (n : Int) s ((blB s n).take i) ((i + 1 : Nat) : Int) = some (blB s n, 0) := by
  have hbl := blB_length s n
  induction d with
  | zero =>
    intro k i hi hk
    obtain ⟨k, rfl⟩ : ∃ m, k = m + 1 := ⟨k - 1, by omega⟩
    rw [winnowref14_Bounds.l1, if_neg (by omega), List.take_of_length_le (by omega)]
  | succ d ih =>
    intro k i hi hk
    obtain ⟨k, rfl⟩ : ∃ m, k = m + 1 := ⟨k - 1, by omega⟩
    have hgo := List.take_succ_eq_append_getElem (l := blB s n) (i := i) (by omega)
    rw [blB_get] at hgo
    rw [winnowref14_Bounds.l1, if_pos (by omega), wrap_succB (i + 1) (by omega)]
    by_cases h0 : 0 < s.length
    · have hq := at_lt s.length n i h0 (by omega)
      have hmu : (i + 1) * s.length ≤ 65535 * 65536 := Nat.mul_le_mul (by omega) hs
      have e1 : ((i + 1 : Nat) : Int) * (s.length : Int) = (((i + 1) * s.length : Nat) : Int) := (Int.natCast_mul _ _).symm
      have e2 : wrap64 (((i + 1) * s.length : Nat) : Int) = (((i + 1) * s.length : Nat) : Int) := by unfold wrap64; omega
      have e3 : wrap64 (Int.tdiv (wrap64 (((i + 1 : Nat) : Int) * (s.length : Int))) (n : Int)) = (((i + 1) * s.length / n : Nat) : Int) := by
        rw [e1, e2, Int.tdiv_eq_ediv_of_nonneg (Int.natCast_nonneg _), ← Int.natCast_ediv]
        generalize (i + 1) * s.length / n = q at hq ⊢
        unfold wrap64
        omega
      rw [if_pos (by omega), if_neg (by omega), e3, if_pos (Int.natCast_nonneg _), if_pos (Int.ofNat_lt.2 hq), if_pos (by rw [List.length_take]; omega), rdb_nat s _ hq, ← atB_pos s n i h0 (by omega), ← hgo]
      exact ih k (i + 1) (by omega) (by omega)
    · rw [if_neg (by omega), if_pos (by rw [List.length_take]; omega)]
      have e : atB s n i = (⟨#[]⟩ : ByteArray) := if_pos (by omega)
      rw [← e, ← hgo]
      exact ih k (i + 1) (by omega) (by omega)
theorem RB_l0 (l : List ByteArray) (hl : l.length ≤ 65536) (n : Int) (hn : 1 ≤ n ∧ n ≤ 65535) (d : Nat) : ∀ (k i : Nat), i + d = l.length → (∀ j, (h : j < l.length) → j < i → l[j].size ≤ 1024) → 400000 * 65541 + d < k → winnowref14_Bounds.l0 k l n (i : Int) = some (boundsOf l n) := by
  induction d with
  | zero =>
    intro k i hi hx hk
    obtain ⟨k, rfl⟩ : ∃ m, k = m + 1 := ⟨k - 1, by omega⟩
    have hb : ∀ b ∈ l, b.size ≤ 1024 := fun b hb => by obtain ⟨j, hj, rfl⟩ := List.getElem_of_mem hb; exact hx j hj (by omega)
    have hsl := sortB_length l
    rw [winnowref14_Bounds.l0, if_neg (by omega), sorted_eq l hl hb k (by omega), Option.bind_some, bo_ok (by omega) hn hb]
    have := RB_l1 (sortB l) (by omega) n.toNat (by omega) (n.toNat - 1) k 0 (by omega) (by omega)
    rw [List.take_zero, show ((n.toNat : Nat) : Int) = n by omega] at this
    exact this
  | succ d ih =>
    intro k i hi hx hk
    obtain ⟨k, rfl⟩ : ∃ m, k = m + 1 := ⟨k - 1, by omega⟩
    have h : i < l.length := by omega
    rw [winnowref14_Bounds.l0, if_pos (by omega), if_pos (by omega), rdb_nat l i h]
    by_cases hz : (l[i].size : Int) > 1024
    · rw [if_pos hz, bo_bad (by omega) hn i h (by omega)]
    · rw [if_neg hz, wrap_succB i (by omega)]
      refine ih k (i + 1) (by omega) (fun j hj hji => ?_) (by omega)
      rcases Nat.lt_or_ge j i with h1 | h1
      · exact hx j hj h1
      · obtain rfl : j = i := by omega
        omega
theorem RefBounds_eq (l : List ByteArray) (n : Int) (k : Nat) (hk : 400000 * 65541 + 65540 < k) : winnowref14_Bounds.f k l n = some (boundsOf l n) := by
  unfold winnowref14_Bounds.f
  obtain ⟨k, rfl⟩ : ∃ m, k = m + 1 := ⟨k - 1, by omega⟩
  by_cases h : 65536 < l.length
  · rw [if_pos (by omega), bo_long h]
  · rw [if_neg (by omega)]
    by_cases h1 : n < 1
    · rw [if_pos h1, winnowref14_Bounds.j0, if_pos rfl, bo_arg h (by omega)]
    · rw [if_neg h1, winnowref14_Bounds.j0]
      by_cases h2 : n > 65535
      · rw [if_pos (decide_eq_true h2), bo_arg h (by omega)]
      · rw [if_neg (by simpa using h2)]
        exact RB_l0 l (by omega) n (by omega) l.length k 0 (by omega) (fun j _ h => absurd h (Nat.not_lt_zero _)) (by omega)
end Go.Proofs.Ytbjlfenappnccaa.P

end
section
/- parts.Bounds: contract by hand. -/
namespace Go.Proofs.Ytbjlfenappnccaa.P
open Go.RowKit Go.Proofs.YtbjlfenappnccaaW.PrintWords Go.Proofs.YtbjlfenappnccaaW.PrintLast Go.Proofs.YtbjlfenappnccaaW.PrintMore Go.Proofs.Ytbjlfenappnccaa.Hand
set_option linter.unusedVariables false
set_option linter.unusedSimpArgs false

set_option maxHeartbeats 8000000 in
set_option maxRecDepth 100000 in
theorem Bounds_walk (w : World) (A : Option Addr) (c : Nat) (l : List ByteArray) (n : Int) (hC : Kd.C Kd.string w A l.length l) (hc : l.length ≤ c) :
    Calls Try.prog 15 #[.slice A l.length c, .int .i64 n] w fun e w' => ∃ v0_ : Value, e = .returned (.tuple #[v0_, .int .i64 (boundsOf l n).2]) ∧ Kd.R Kd.string 9 w' w.heap.size (fun _ => True) v0_ (boundsOf l n).1 ∧ Below w.heap.size w w' := by
  have HB := Aside0.mk (Below.refl w.heap.size w)
  have HC := Aside0.mk hC
  have HCC := Aside0.mk hc
  clear hc hC
  by_cases hlong : 65536 < l.length
  · have hd1 : decide ((65536 : Int) < (l.length : Int)) = true := by simp; omega
    have hd2 : decide (65536 < l.length) = true := by simp; omega
    have HE := Aside0.mk (bo_long (n := n) hlong)
    clear hlong
    go_enter Try.func15, Try.ntmps15
    go_wp2_with fail
    go_ret2
    rw [HE.out]
    exact ⟨_, rfl, Kd.R_nil _ _ _ _ _, HB.out⟩
  have hd1 : decide ((65536 : Int) < (l.length : Int)) = false := by simp; omega
  have hd2 : decide (65536 < l.length) = false := by simp; omega
  have HLONG := Aside0.mk hlong
  clear hlong
  by_cases harg : ¬ (1 ≤ n ∧ n ≤ 65535)
  · have HE := Aside0.mk (bo_arg HLONG.out harg)
    have HG := Aside0.mk (fun (W : World) => parts_good.calls n false W (by unfold parts_good.f; by_cases h1 : n ≥ 1; (rw [if_pos h1]; simp; omega); rw [if_neg h1]))
    clear harg
    go_enter Try.func15, Try.ntmps15
    go_wp2_with fail
    refine (HG.out _).mono ?_
    rintro e w2 ⟨rfl, hD⟩
    have HB2 := Aside0.mk (below_step HB.out hD.below)
    clear hD
    go_wp2_with fail
    go_ret2
    rw [HE.out]
    exact ⟨_, rfl, Kd.R_nil _ _ _ _ _, by first | exact HB2.out | exact below_drew1 HB2.out⟩
  replace harg := Decidable.not_not.1 harg
  have HARG := Aside0.mk harg
  have HG := Aside0.mk (fun (W : World) => parts_good.calls n true W (by unfold parts_good.f; rw [if_pos harg.1]; simp; exact harg.2))
  clear harg
  go_enter Try.func15, Try.ntmps15
  go_wp2_with fail
  refine (HG.out _).mono ?_
  rintro e w2 ⟨rfl, hD⟩
  have HB2 := Aside0.mk (below_step HB.out hD.below)
  clear hD hd1 hd2 HB HG
  go_wp2_with fail
  go_loopw [19] (fun v0 wr => ∃ i : Nat, v0 = .int .i64 i ∧ i ≤ l.length ∧ Aside0 (∀ j, (h : j < l.length) → j < i → l[j].size ≤ 1024) ∧ Aside0 (Below w.heap.size w wr)) (fun v0 _ => l.length - (intOf v0).toNat)
  case atStart => exact ⟨0, rfl, Nat.zero_le _, ⟨fun j _ h => absurd h (Nat.not_lt_zero _)⟩, HB2⟩
  case round =>
    clear HB2
    obtain ⟨i, rfl, hi, HX, HB⟩ := hrel
    by_cases hlt : i < l.length
    · have p1 : (0 : Int) ≤ (i : Int) := Int.natCast_nonneg i
      have q1 : (i : Int) < (l.length : Int) := Int.ofNat_lt.2 hlt
      have d3 : decide ((i : Int) < (l.length : Int)) = true := decide_eq_true q1
      have d4 : decide (i < l.length) = true := decide_eq_true hlt
      obtain ⟨ad, e, hx0⟩ := Kd.at_string (Kd.C_below HC.out HB.out) (i : Int) (Int.natCast_nonneg i) (Int.ofNat_lt.2 hlt)
      subst e
      rw [rdb_nat l i hlt, Int.toNat_natCast] at hx0
      replace p1 := eq_true p1
      replace q1 := eq_true q1
      have hw4 : wrap64 ((i : Int) + 1) = ((i + 1 : Nat) : Int) := wrap_succB i (by have := HLONG.out; omega)
      by_cases hsz : 1024 < l[i].size
      · have HE := Aside0.mk (bo_bad HLONG.out HARG.out i hlt hsz)
        generalize l[i] = b at hx0 hsz
        have d5 : decide ((1024 : Int) < (b.size : Int)) = true := decide_eq_true (by omega)
        have d6 : decide (1024 < b.size) = true := decide_eq_true hsz
        clear hsz
        go_wp2_with fail
        go_ret2
        rw [HE.out]
        exact ⟨_, rfl, Kd.R_nil _ _ _ _ _, by first | exact HB.out | exact below_drew1 HB.out⟩
      · have HX2 := Aside0.mk (show ∀ j, (h : j < l.length) → j < i + 1 → l[j].size ≤ 1024 from fun j h hj => by
          rcases Nat.lt_or_ge j i with h1 | h1
          · exact HX.out j h h1
          · obtain rfl : j = i := by omega
            omega)
        generalize l[i] = b at hx0 hsz
        have d5 : decide ((1024 : Int) < (b.size : Int)) = false := decide_eq_false (by omega)
        have d6 : decide (1024 < b.size) = false := decide_eq_false hsz
        clear hsz
        go_wp2_with fail
        go_roundw
        case rel => exact ⟨i + 1, by rw [hw4], by omega, HX2, by first | exact HB | exact ⟨below_drew1 HB.out⟩⟩
        case measure => rw [hw4]; simp only [intOf, Int.toNat_natCast]; omega
    · have d3 : decide ((i : Int) < (l.length : Int)) = false := by simp; omega
      have d4 : decide (i < l.length) = false := by simp; omega
      have HK := Aside0.mk (show ∀ b ∈ l, b.size ≤ 1024 from fun b hb => by
        obtain ⟨j, hj, rfl⟩ := List.getElem_of_mem hb
        exact HX.out j hj (by omega))
      clear HX hlt hi
      have HLL := Aside0.mk (show ([] ++ l : List ByteArray).length < 8796093022208 by have := HLONG.out; rw [List.nil_append]; omega)
      go_upto_region 12 with (first
        | ((with_reducible refine gate_dst (N := 27) rfl ?_); refine Kd.R_lit Kd.string _ 9 ?hg (N := 27) ?hd (xs := ([] : List ByteArray)) (inner := []) (ok := fun _ => True) (okp := fun _ => True) ?hr ?hp (fun _ hk => hk) trivial (Below.refl _ _) (Nat.le_refl _) (by simp) ?_; (case hd => rfl); (case hg => rfl); (case hr => first | (go_simp; done) | (go_simp; rfl)); (case hp => exact (Reps.none _ _)); intro v27 w3 ho hb hg_ hnew_; clear hg_ hnew_; have n0_ := Aside0.mk (Kd.R_lower ho (below_size (by repeat (first | (with_reducible first | exact HB.out | apply below_alloc | apply pw_below_drewN | apply below_drew1) | exact HB.out)))); have n1_ := Aside0.mk (below_step (by repeat (first | (with_reducible first | exact HB.out | apply below_alloc | apply pw_below_drewN | apply below_drew1) | exact HB.out)) hb); clear HB; have HO27 := n0_; have HB := n1_; clear n0_ n1_; clear hb ho)
        | ((with_reducible refine gate_builtin (b := .append) (xs := #[.tmp 27, .tmp 28]) rfl ?_); at_builtin; refine Kd.R_append_rows Kd.string (w0 := w) w.heap.size rfl (.tmp 27) (.tmp 28) 24 9 (.string ⟨#[]⟩) 16 rfl Try.underlying24 info9 rfl (by decide) (by omega) v27 [] l _ _ _ (fun _ => True) (fun _ => False) rfl rfl ?aO ?aR (fun _ _ h => h) (fun _ h => h.elim) ?aF ?aB ?aS ?aL ?_; (case aR => repeat (first | exact (Kd.C_below HC.out HB.out) | (with_reducible refine Kd.C_alloc ?_ _) | (with_reducible refine Kd.C_drewN ?_ _) | (with_reducible refine Kd.C_drew ?_))); (case aB => exact (by repeat (first | (with_reducible first | exact HB.out | apply below_alloc | apply pw_below_drewN | apply below_drew1) | exact HB.out))); (case aF => exact (fun _ _ => trivial)); (case aO => exact (by (with_reducible repeat (first | apply Kd.R_alloc | apply Kd.R_drewN | apply Kd.R_drew)); exact HO27.out)); (case aS => exact (below_size (by repeat (first | (with_reducible first | exact HB.out | apply below_alloc | apply pw_below_drewN | apply below_drew1) | exact HB.out)))); (case aL => have := HLL.out; (try rw [List.nil_append] at this); (try rw [List.length_nil]); omega); intro v29 w4 ho hb hg hat; have n0_ := Aside0.mk hb; have n1_ := Aside0.mk ho; clear HB; clear HO27; have HB := n0_; have HO29 := n1_; clear n0_ n1_; clear ho hb hg hat; obtain ⟨As, cs, es⟩ := Kd.R_slice HO29.out; subst es))
      rw [List.nil_append] at HO29
      obtain ⟨Bs, hBs⟩ : ∃ Bs, Bs = w4.heap.size := ⟨_, rfl⟩
      have hb1 : (w4.alloc (.cells #[.slice As l.length cs] 24)).heap[Bs]? = some (.cells #[.slice As l.length cs] 24 (0, 0)) := by rw [hBs]; exact heap_alloc_new w4 _
      have HR5 := Aside0.mk (Kd.R_alloc HO29.out (.cells #[.slice As l.length cs] 24))
      have HB5 := Aside0.mk (below_alloc HB.out (.cells #[.slice As l.length cs] 24))
      rw [← hBs]
      clear hBs HO29 HB
      generalize w4.alloc (.cells #[.slice As l.length cs] 24) = w5 at hb1 HR5 HB5 ⊢
      have hcell : w5.cell? ⟨Bs, 0, none⟩ = some (.slice As l.length cs) := (blk_cell hb1 0).trans rfl
      have HSRT := Aside0.mk (sort_keys w5 w.heap.size l.length cs Bs As l HK.out HR5.out (by have := HLONG.out; omega) hb1)
      go_upto_region 13 with (go_at_call 29; refine HSRT.out.mono ?_; rintro e w6 ⟨rfl, hr, hb6, hbl, hsz⟩; have HR6 := Aside0.mk hr; have HBX6 := Aside0.mk hb6; have HB6 := Aside0.mk (hbl w HB5.out (below_size HB5.out)); clear hr hb6 hbl hsz HSRT HR5 HB5 hb1 hcell)
      obtain ⟨m, hm⟩ : ∃ m : Nat, n = ((m + 1 : Nat) : Int) := ⟨(n - 1).toNat, by have := HARG.out; omega⟩
      have hwm : wrap64 (n - 1) = (m : Int) := by have := HARG.out; unfold wrap64; omega
      have hwm2 : IntKind.i64.wrap (n - 1) = (m : Int) := (i64_w _).trans hwm
      have HM := Aside0.mk hm
      have HM2 := Aside0.mk (show m ≤ 65534 by have := HARG.out; omega)
      clear hm
      go_upto_region 14 with (first
        | ((with_reducible refine gate_dst (N := 36) rfl ?_); refine Kd.R_make Kd.string _ 9 rfl (N := 36) rfl 24 _ _ rfl (m : Int) rfl rfl Try.underlying24 (.string ⟨#[]⟩) 16 info9 rfl (by decide) (by omega) ByteArray.empty (ok := fun _ => True) (okp := fun _ => True) rfl (fun _ hk => hk) trivial (Int.natCast_nonneg m) (by have := HM2.out; rw [Int.toNat_natCast]; omega) (Below.refl _ _) (Nat.le_refl _) ?_; intro v36 w7 ho hb hg hnew; rw [Int.toNat_natCast] at ho; have HV := Aside0.mk hnew; have HO36 := Aside0.mk (Kd.R_lower ho (below_size (by repeat (first | (with_reducible first | exact HB6.out | apply below_alloc | apply pw_below_drewN | apply below_drew1) | exact HB6.out)))); have HB7 := Aside0.mk (below_step (by repeat (first | (with_reducible first | exact HB6.out | apply below_alloc | apply pw_below_drewN | apply below_drew1) | exact HB6.out)) hb); have HS7 := Aside0.mk (Kd.R_below HR6.out hb); have HX7 := Aside0.mk ((hb.block _ (blk_lt HBX6.out)).trans HBX6.out); have HLT := Aside0.mk (Kd.R_lt HR6.out); have HBT := Aside0.mk (blk_lt HBX6.out); clear HB6 HR6 HBX6 hb ho hg hnew))
      obtain ⟨gb, cb, hgv, hgb, hlb⟩ : ∃ gb cb, v36 = .slice (some ⟨gb, 0, none⟩) m cb ∧ w6.heap.size ≤ gb ∧ gb < w7.heap.size := by
        obtain ⟨b, hb1, hb2⟩ := HV.out
        obtain ⟨_, hv⟩ := Kd.own_of_R HO36.out
        rcases hv with ⟨rfl, _⟩ | ⟨gb, cb, cur, rfl, _, hh, _⟩
        · simp [Value.ownBlock] at hb1
        · have : gb = b := by simpa [Value.ownBlock] using hb1
          subst this
          exact ⟨gb, cb, by rw [List.length_replicate], hb2, blk_lt hh⟩
      subst hgv
      have HNE := Aside0.mk (show ∀ k, (Value.slice As l.length cs).ownBlock = some k → k ≠ gb from fun k hk => by have := HLT.out k hk; omega)
      have HNB := Aside0.mk (show Bs ≠ gb by have := HBT.out; omega)
      obtain ⟨S, hS⟩ : ∃ S, S = sortB l := ⟨_, rfl⟩
      rw [← hS] at HS7
      have HSL := Aside0.mk (show S.length = l.length by rw [hS]; exact sortB_length l)
      have HE := Aside0.mk (show boundsOf l n = (blB S (m + 1), 0) by rw [bo_ok HLONG.out HARG.out HK.out, hS]; have := HM.out; rw [this]; rfl)
      have HP0 : Aside0 (Kd.R Kd.string 9 w7 w.heap.size (fun _ => True) (.slice (some ⟨gb, 0, none⟩) m cb) (plB S (m + 1) 0)) := ⟨by rw [plB_zero]; exact HO36.out⟩
      clear hS HV HO36 HLT HBT hgb hlb HK hwm hwm2
      go_wp2_with fail
      go_loopw [39] (fun v0 wr => ∃ i : Nat, v0 = .int .i64 i ∧ i ≤ m ∧ Aside0 (Kd.R Kd.string 9 wr w.heap.size (fun _ => True) (.slice (some ⟨gb, 0, none⟩) m cb) (plB S (m + 1) i)) ∧ Aside0 (Kd.R Kd.string 9 wr w.heap.size (fun _ => True) (.slice As l.length cs) S) ∧ Aside0 (wr.heap[Bs]? = some (.cells #[.slice As l.length cs] 24 (0, 0))) ∧ Aside0 (Below w.heap.size w wr)) (fun v0 _ => m - (intOf v0).toNat)
      case atStart => exact ⟨0, rfl, Nat.zero_le _, HP0, HS7, HX7, HB7⟩
      case round =>
        clear HP0 HS7 HX7 HB7
        obtain ⟨i2, rfl, hi2, HP, HS, HX, HB⟩ := hrel
        by_cases hlt : i2 < m
        · have q1 : (i2 : Int) < (m : Int) := Int.ofNat_lt.2 hlt
          have d5 : decide ((i2 : Int) < (m : Int)) = true := decide_eq_true q1
          have d6 : decide (i2 < m) = true := decide_eq_true hlt
          have hx8 := (blk_cell HX.out 0).trans rfl
          have hw4 : wrap64 ((i2 : Int) + 1) = ((i2 + 1 : Nat) : Int) := wrap_succB i2 (by have := HM2.out; omega)
          by_cases hpos : 0 < l.length
          · obtain ⟨gs, cap_, hv, _, _, _⟩ := Kd.R_form HS.out (by have := HSL.out; omega)
            injection hv with hv1 hv2 hv3
            subst hv1
            clear hv2 hv3
            have hne : gs ≠ gb := HNE.out gs rfl
            obtain ⟨q, hq⟩ : ∃ q : Nat, q = (i2 + 1) * l.length / (m + 1) := ⟨_, rfl⟩
            have hql : q < l.length := by rw [hq]; exact at_lt l.length (m + 1) i2 hpos (by omega)
            have hcs := Kd.R_celln ByteArray.empty HS.out (q : Int) (Int.natCast_nonneg q) (Int.ofNat_lt.2 hql)
            have hcb := Kd.R_celln ByteArray.empty HP.out (i2 : Int) (Int.natCast_nonneg i2) q1
            have hrd : rdOf ByteArray.empty S (q : Int) = atB S (m + 1) i2 := by
              have h := HSL.out
              unfold rdOf atB
              rw [Int.toNat_natCast, if_neg (by omega), h, hq]
            rw [hrd, Int.toNat_natCast] at hcs
            rw [Int.toNat_natCast] at hcb
            have hps := plB_set S (m + 1) i2 (by omega)
            generalize atB S (m + 1) i2 = x at hcs hps
            have hput := Kd.R_putn (h1 := fun _ => rfl) HP.out (i2 : Int) x
            rw [Int.toNat_natCast, hps] at hput
            have HP2 := Aside0.mk hput
            have HS2 := Aside0.mk (Kd.R_mono (Kd.R_far (p := ⟨gb, i2, none⟩) (Kd.R_of_own (h1 := fun _ => rfl) (ok := fun k => k ≠ gb) (Kd.own_of_R HS.out) HNE.out) (fun k hk => hk) (.string x)) (fun _ _ => trivial))
            have HX2 := Aside0.mk ((Below.heap_setCell wr ⟨gb, i2, none⟩ (.string x) Bs HNB.out).trans HX.out)
            have HB2 : Aside0 (Below w.heap.size w (wr.setCell ⟨gb, i2, none⟩ (.string x))) := ⟨by
              have hb := HB.out
              have hgb := (Kd.R_base HP.out) gb rfl
              exact ⟨hb.os, hb.tape, hb.output, by have := hb.size; simpa [World.setCell] using this, fun k hk => (Below.heap_setCell wr ⟨gb, i2, none⟩ (.string x) k (show k ≠ gb by omega)).trans (hb.block k hk)⟩⟩
            have hcs1 : wr.cell? ⟨gs, q, none⟩ = some (.string x) := hcs.1
            have hcb1 := hcb.1
            have hcb2 := hcb.2
            generalize rdOf ByteArray.empty (plB S (m + 1) i2) (i2 : Int) = old at hcb1
            have d7 : decide ((0 : Int) < (l.length : Int)) = true := decide_eq_true (by omega)
            have d8 : decide (0 < l.length) = true := decide_eq_true hpos
            have hmu : (i2 + 1) * l.length ≤ 65535 * 65536 := Nat.mul_le_mul (by have := HM2.out; omega) (by have := HLONG.out; omega)
            have hw7 : wrap64 ((wrap64 (((i2 : Int) + 1) * (l.length : Int))).tdiv n) = (q : Int) := by
              have e1 : ((i2 : Int) + 1) * (l.length : Int) = (((i2 + 1) * l.length : Nat) : Int) := by rw [Int.natCast_mul]; rfl
              have e2 : wrap64 (((i2 + 1) * l.length : Nat) : Int) = (((i2 + 1) * l.length : Nat) : Int) := by unfold wrap64; omega
              have e3 := HM.out
              rw [e1, e2, e3, Int.tdiv_eq_ediv_of_nonneg (Int.natCast_nonneg _), ← Int.natCast_ediv, ← hq]
              unfold wrap64
              have := HLONG.out
              omega
            have hn0 : (n = 0) = False := eq_false (by have := HARG.out; omega)
            have hn1 : (n == 0) = false := by simp; have := HARG.out; omega
            have hql1 : (q : Int) < (l.length : Int) := Int.ofNat_lt.2 hql
            have hql2 : decide ((q : Int) < (l.length : Int)) = true := decide_eq_true hql1
            have hql3 : decide (q < l.length) = true := decide_eq_true hql
            have hq0 : (0 : Int) ≤ (q : Int) := Int.natCast_nonneg q
            clear hps hput hcs hcb hpos hq hmu hrd
            go_wp2_with fail
            go_region
            go_wp2_with fail
            go_roundw
            case rel => exact ⟨i2 + 1, by rw [hw4], by omega, ⟨Kd.R_drew HP2.out⟩, ⟨Kd.R_drew HS2.out⟩, HX2, ⟨below_drew1 HB2.out⟩⟩
            case measure => rw [hw4]; simp only [intOf, Int.toNat_natCast]; omega
          · have d7 : decide ((0 : Int) < (l.length : Int)) = false := decide_eq_false (by omega)
            have d8 : decide (0 < l.length) = false := decide_eq_false hpos
            have HP2 := Aside0.mk (show Kd.R Kd.string 9 _ w.heap.size (fun _ => True) (.slice (some ⟨gb, 0, none⟩) m cb) (plB S (m + 1) (i2 + 1)) by rw [← plB_empty S (m + 1) i2 (by omega) (by have := HSL.out; omega)]; exact HP.out)
            clear hpos HP
            go_wp2_with fail
            go_roundw
            case rel => exact ⟨i2 + 1, by rw [hw4], by omega, HP2, HS, HX, HB⟩
            case measure => rw [hw4]; simp only [intOf, Int.toNat_natCast]; omega
        · have d5 : decide ((i2 : Int) < (m : Int)) = false := by simp; omega
          have d6 : decide (i2 < m) = false := by simp; omega
          have hx8 := (blk_cell HX.out 0).trans rfl
          have HI := Aside0.mk (show i2 = m by omega)
          clear hlt hi2
          go_wp2_with fail
          go_ret2
          rw [HE.out]
          refine ⟨_, rfl, ?_, HB.out⟩
          have := HP.out
          rw [HI.out] at this
          have e := plB_end S (m + 1)
          rw [Nat.add_sub_cancel] at e
          rw [e] at this
          exact this
end Go.Proofs.Ytbjlfenappnccaa.P
namespace Go.Proofs.Ytbjlfenappnccaa.Hand
open Go.RowKit Go.Proofs.YtbjlfenappnccaaW.PrintWords Go.Proofs.YtbjlfenappnccaaW.PrintLast Go.Proofs.Ytbjlfenappnccaa.P
set_option linter.unusedVariables false
def parts_Bounds.f (l0 : List ByteArray) (a1 : Int) : Option (List ByteArray × Int) := some (boundsOf l0 a1)
theorem parts_Bounds.calls (A0 : Option Addr) (c0 : Nat) (l0 : List ByteArray) (a1 : Int) (r1 : List ByteArray) (r2 : Int) (w : World) (hr0 : Kd.C Kd.string w A0 l0.length l0) (hc0 : l0.length ≤ c0) (h : parts_Bounds.f l0 a1 = some (r1, r2)) :
    Calls Try.prog 15 #[.slice A0 l0.length c0, .int .i64 a1] w fun e w' => ∃ v0_ : Value, e = .returned (.tuple #[v0_, .int .i64 r2]) ∧ Kd.R Kd.string 9 w' w.heap.size (fun _ => True) v0_ r1 ∧ Below w.heap.size w w' := by
  have h' := Option.some.inj h
  have := Bounds_walk w A0 c0 l0 a1 hr0 hc0
  rw [h'] at this
  exact this
end Go.Proofs.Ytbjlfenappnccaa.Hand

end
section
-- Written by a program of this session (wip/tools/hprint.py, over the kit's printer), not by hand. Lean checks it.
namespace Go.Proofs.Ytbjlfenappnccaa.P
open Go.RowKit Go.Proofs.YtbjlfenappnccaaW.PrintWords Go.Proofs.YtbjlfenappnccaaW.PrintLast Go.Proofs.YtbjlfenappnccaaW.PrintMore
attribute [local go_sem] max2_int min2_int max_two min_two max_three min_three max_four min_four
set_option linter.unusedVariables false
set_option linter.unusedSimpArgs false

/-! ### winnowlaw14_roomy: function 10 -/
def winnowlaw14_roomy.f (l0 : List ByteArray) : Option (List ByteArray) := (some (([] : List ByteArray) : List ByteArray)).bind fun y107 => (if y107.length + l0.length < 8796093022208 then ((some (y107 ++ l0 : List ByteArray)).bind fun y110 => (if y110.length < 8796093022208 then ((some (y110 ++ [(⟨#[109, 97, 114, 107]⟩ : ByteArray)] : List ByteArray)).bind fun y113 => (if 0 ≤ (l0.length : Int) then (if (l0.length : Int) ≤ (y113.length : Int) then (some (y113.take ((l0.length : Int) : Int).toNat)) else (none)) else (none))) else (none))) else (none))
set_option maxHeartbeats 8000000 in
set_option maxRecDepth 100000 in
theorem winnowlaw14_roomy.calls (A0 : Option Addr) (c0 : Nat) (l0 : List ByteArray) (r : List ByteArray) (w : World) (hr0 : Kd.C Kd.string w A0 l0.length l0) (hc0 : l0.length ≤ c0) (h : winnowlaw14_roomy.f l0 = some r) :
    Calls Try.prog 10 #[.slice A0 l0.length c0] w fun e w' => ∃ v0_ : Value, e = .returned (v0_) ∧ Kd.R Kd.string 9 w' w.heap.size (fun _ => True) v0_ r ∧ Below w.heap.size w w' := by
  have HR0 := Aside0.mk hr0
  have HC0 := Aside0.mk hc0
  clear hr0 hc0
  have HB := Aside0.mk (Below.refl w.heap.size w)
  have H : ((some (([] : List ByteArray) : List ByteArray)).bind fun y107 => (if y107.length + l0.length < 8796093022208 then ((some (y107 ++ l0 : List ByteArray)).bind fun y110 => (if y110.length < 8796093022208 then ((some (y110 ++ [(⟨#[109, 97, 114, 107]⟩ : ByteArray)] : List ByteArray)).bind fun y113 => (if 0 ≤ (l0.length : Int) then (if (l0.length : Int) ≤ (y113.length : Int) then (some (y113.take ((l0.length : Int) : Int).toNat)) else (none)) else (none))) else (none))) else (none))) = some r := h
  clear h
  obtain ⟨y107, hy107⟩ : ∃ y_ : List ByteArray, y_ = (([] : List ByteArray)) := ⟨_, rfl⟩
  replace H : (if y107.length + l0.length < 8796093022208 then ((some (y107 ++ l0 : List ByteArray)).bind fun y110 => (if y110.length < 8796093022208 then ((some (y110 ++ [(⟨#[109, 97, 114, 107]⟩ : ByteArray)] : List ByteArray)).bind fun y113 => (if 0 ≤ (l0.length : Int) then (if (l0.length : Int) ≤ (y113.length : Int) then (some (y113.take ((l0.length : Int) : Int).toNat)) else (none)) else (none))) else (none))) else (none)) = some r := by first | (rw [hy107]; with_reducible exact H) | (have H2_ := (Option.bind_some _ _).symm.trans H; rw [hy107]; with_reducible exact H2_) | (have H2_ := (Option.bind_some _ _).symm.trans H; with_reducible exact H2_) | with_reducible exact H | (rw [hy107]; exact H) | exact H
  have Ny107 := Aside0.mk hy107
  clear hy107
  by_cases c2 : y107.length + l0.length < 8796093022208
  · rw [if_pos c2] at H
    have LMc2 := Aside0.mk c2
    clear c2
    obtain ⟨y110, hy110⟩ : ∃ y_ : List ByteArray, y_ = (y107 ++ l0) := ⟨_, rfl⟩
    replace H : (if y110.length < 8796093022208 then ((some (y110 ++ [(⟨#[109, 97, 114, 107]⟩ : ByteArray)] : List ByteArray)).bind fun y113 => (if 0 ≤ (l0.length : Int) then (if (l0.length : Int) ≤ (y113.length : Int) then (some (y113.take ((l0.length : Int) : Int).toNat)) else (none)) else (none))) else (none)) = some r := by first | (rw [hy110]; with_reducible exact H) | (have H2_ := (Option.bind_some _ _).symm.trans H; rw [hy110]; with_reducible exact H2_) | (have H2_ := (Option.bind_some _ _).symm.trans H; with_reducible exact H2_) | with_reducible exact H | (rw [hy110]; exact H) | exact H
    have Ny110 := Aside0.mk hy110
    clear hy110
    by_cases c3 : y110.length < 8796093022208
    · rw [if_pos c3] at H
      have LMc3 := Aside0.mk c3
      clear c3
      obtain ⟨y113, hy113⟩ : ∃ y_ : List ByteArray, y_ = (y110 ++ [(⟨#[109, 97, 114, 107]⟩ : ByteArray)]) := ⟨_, rfl⟩
      replace H : (if 0 ≤ (l0.length : Int) then (if (l0.length : Int) ≤ (y113.length : Int) then (some (y113.take ((l0.length : Int) : Int).toNat)) else (none)) else (none)) = some r := by first | (rw [hy113]; with_reducible exact H) | (have H2_ := (Option.bind_some _ _).symm.trans H; rw [hy113]; with_reducible exact H2_) | (have H2_ := (Option.bind_some _ _).symm.trans H; with_reducible exact H2_) | with_reducible exact H | (rw [hy113]; exact H) | exact H
      have Ny113 := Aside0.mk hy113
      clear hy113
      by_cases c4 : 0 ≤ (l0.length : Int)
      · rw [if_pos c4] at H
        have c4b0 := eq_true c4
        have c4b1 : decide (0 ≤ (l0.length : Int)) = true := decide_eq_true c4
        (try (have c4b2 := eq_true (show 0 ≤ (c0 : Int) from by have h_ := HC0.out; omega)))
        clear c4
        by_cases c5 : (l0.length : Int) ≤ (y113.length : Int)
        · rw [if_pos c5] at H
          have c5b0 := eq_true c5
          have c5b1 : decide ((l0.length : Int) ≤ (y113.length : Int)) = true := decide_eq_true c5
          clear c5
          obtain ⟨y116, hy116⟩ : ∃ y_ : List ByteArray, y_ = (y113.take ((l0.length : Int) : Int).toNat) := ⟨_, rfl⟩
          replace H : (some y116) = some r := by first | (rw [hy116]; with_reducible exact H) | (have H2_ := (Option.bind_some _ _).symm.trans H; rw [hy116]; with_reducible exact H2_) | (have H2_ := (Option.bind_some _ _).symm.trans H; with_reducible exact H2_) | with_reducible exact H | (rw [hy116]; exact H) | exact H
          have Ny116 := Aside0.mk hy116
          clear hy116
          obtain rfl := Option.some.inj H
          go_enter Try.func10, Try.ntmps10
          go_wp2_with (first | ((with_reducible refine gate_dst (N := 4) rfl ?_); refine Kd.R_lit Kd.string _ 9 ?hg (N := 4) ?hd (xs := ([] : List ByteArray)) (inner := []) (ok := fun _ => True) (okp := fun _ => True) ?hr ?hp (fun _ hk => hk) trivial (Below.refl _ _) (Nat.le_refl _) (by simp) ?_; (case hd => rfl); (case hg => rfl); (case hr => first | (go_simp; done) | (go_simp; rfl)); (case hp => exact (Reps.none _ _)); intro v108 w6 ho7 hb hg_ hnew_; clear hg_ hnew_; (first | rw [← Ny107.out] at ho7 | (simp only [Int.reduceToNat] at ho7; rw [← Ny107.out] at ho7)); have n0_ := Aside0.mk (Kd.R_lower ho7 (below_size (by repeat (first | (with_reducible first | exact HB.out | apply below_alloc | apply pw_below_drewN | apply below_drew1) | exact HB.out)))); have n1_ := Aside0.mk (below_step (by repeat (first | (with_reducible first | exact HB.out | apply below_alloc | apply pw_below_drewN | apply below_drew1) | exact HB.out)) hb); clear HB; have HO109 := n0_; have HB := n1_; clear n0_ n1_; clear hb ho7) | ((with_reducible refine gate_builtin (b := .append) (xs := #[.tmp 4, .tmp 5]) rfl ?_); at_builtin; refine Kd.R_append_rows Kd.string (w0 := w) w.heap.size rfl (.tmp 4) (.tmp 5) 24 9 (.string ⟨#[]⟩) 16 rfl Try.underlying24 info9 rfl (by decide) (by omega) v108 y107 l0 _ _ _ (fun _ => True) (fun _ => False) rfl rfl ?aO ?aR (fun _ _ h => h) (fun _ h => h.elim) ?aF ?aB ?aS ?aL ?_; (case aR => repeat (first | exact (Kd.C_below HR0.out HB.out) | (with_reducible refine Kd.C_alloc ?_ _) | (with_reducible refine Kd.C_drewN ?_ _) | (with_reducible refine Kd.C_drew ?_))); (case aB => exact (by repeat (first | (with_reducible first | exact HB.out | apply below_alloc | apply pw_below_drewN | apply below_drew1) | exact HB.out))); (case aF => exact (fun _ _ => trivial)); (case aO => exact (by (with_reducible repeat (first | apply Kd.R_alloc | apply Kd.R_drewN | apply Kd.R_drew)); exact HO109.out)); (case aS => exact (below_size (by repeat (first | (with_reducible first | exact HB.out | apply below_alloc | apply pw_below_drewN | apply below_drew1) | exact HB.out)))); (case aL => have := LMc2.out; omega); intro v111 w8 ho hb hg hat; rw [← Ny110.out] at ho; have n0_ := Aside0.mk (hb); have n1_ := Aside0.mk (ho); clear HB; clear HO109; have HB := n0_; have HO112 := n1_; clear n0_ n1_; clear ho hb hg hat) | ((with_reducible refine gate_builtin (b := .append) (xs := #[.tmp 7, .tmp 8]) rfl ?_); at_builtin; refine Kd.R_append Kd.string (w0 := w) w.heap.size rfl (.tmp 7) (.tmp 8) 24 9 (.string ⟨#[]⟩) 16 rfl Try.underlying24 info9 rfl (by decide) (by omega) v111 y110 (⟨#[109, 97, 114, 107]⟩ : ByteArray) [.string (⟨#[109, 97, 114, 107]⟩ : ByteArray)] (fun _ => True) (fun _ => False) rfl rfl ?aP (fun _ hk => hk.elim) ?aF ?aO ?aB ?aS ?aL ?_; (case aP => exact rfl); (case aB => exact (by repeat (first | (with_reducible first | exact HB.out | apply below_alloc | apply pw_below_drewN | apply below_drew1) | exact HB.out))); (case aF => exact (fun _ _ => trivial)); (case aO => exact (by (with_reducible repeat (first | apply Kd.R_alloc | apply Kd.R_drewN | apply Kd.R_drew)); exact HO112.out)); (case aS => exact (below_size (by repeat (first | (with_reducible first | exact HB.out | apply below_alloc | apply pw_below_drewN | apply below_drew1) | exact HB.out)))); (case aL => have := LMc3.out; omega); intro v114 w9 ho hb hg hat; rw [← Ny113.out] at ho; have n0_ := Aside0.mk (hb); have n1_ := Aside0.mk (ho); clear HB; clear HO112; have HB := n0_; have HO115 := n1_; clear n0_ n1_; clear ho hb hg hat; obtain ⟨Ao10, co10, eo10⟩ := Kd.R_slice HO115.out; subst eo10; have q11 : ((l0.length : Int) : Int) ≤ ((y113.length : Int) : Int) := of_decide_eq_true (by first | (with_reducible assumption) | assumption); obtain ⟨i011, hi011, _, hsz11, _⟩ := info_parts info9; have hcut11 := cut_to (P := Try.prog) 24 9 .i64 Try.underlying24 hi011 Ao10 y113.length co10 (l0.length : Int) (of_decide_eq_true (by first | (with_reducible assumption) | assumption)) q11 (Kd.R_reads' HO115.out).2.1; have hr11 := Kd.R_take (m := ((l0.length : Int) : Int).toNat) HO115.out (by omega); have hy11 : y116.length = ((l0.length : Int) : Int).toNat := (by rw [Ny116.out, List.length_take]; omega); rw [← Ny116.out] at hr11; rw [← hy11] at hr11 hcut11; clear hy11 hi011 hsz11 HO115; have HO118 := Aside0.mk hr11; clear hr11; replace q11 := eq_true q11))
          go_ret
          exact ⟨_, by first | rfl | (simp [errW_none, errW_some] <;> rfl) | (simp [*, errW_none, errW_some] <;> rfl), by (with_reducible repeat (first | apply Kd.R_alloc | apply Kd.R_drewN | apply Kd.R_drew)); exact HO118.out, by repeat (first | (with_reducible first | exact HB.out | apply below_alloc | apply pw_below_drewN | apply below_drew1) | exact HB.out)⟩
        · rw [if_neg c5] at H
          exact absurd H (by simp)
      · rw [if_neg c4] at H
        exact absurd H (by simp)
    · rw [if_neg c3] at H
      exact absurd H (by simp)
  · rw [if_neg c2] at H
    exact absurd H (by simp)

end Go.Proofs.Ytbjlfenappnccaa.P

end
section
/- roomy: the texts, with a mark behind them in the same memory. The printed walk, its promise made sharper (wip/parts/mkroomy.py). -/
namespace Go.Proofs.Ytbjlfenappnccaa.P
open Go.RowKit Go.Proofs.YtbjlfenappnccaaW.PrintWords Go.Proofs.YtbjlfenappnccaaW.PrintLast Go.Proofs.YtbjlfenappnccaaW.PrintMore
attribute [local go_sem] max2_int min2_int max_two min_two max_three min_three max_four min_four
set_option linter.unusedVariables false
set_option linter.unusedSimpArgs false
set_option maxHeartbeats 8000000 in
set_option maxRecDepth 100000 in
theorem roomy_sharp (A0 : Option Addr) (c0 : Nat) (l0 : List ByteArray) (r : List ByteArray) (w : World) (hr0 : Kd.C Kd.string w A0 l0.length l0) (hc0 : l0.length ≤ c0) (h : winnowlaw14_roomy.f l0 = some r) :
    Calls Try.prog 10 #[.slice A0 l0.length c0] w fun e w' => ∃ A c, e = .returned (.slice A l0.length c) ∧ l0.length + 1 ≤ c ∧ Kd.R Kd.string 9 w' w.heap.size (fun _ => True) (.slice A (l0.length + 1) c) (l0 ++ [(⟨#[109, 97, 114, 107]⟩ : ByteArray)]) ∧ Below w.heap.size w w' := by
  have HR0 := Aside0.mk hr0
  have HC0 := Aside0.mk hc0
  clear hr0 hc0
  have HB := Aside0.mk (Below.refl w.heap.size w)
  have H : ((some (([] : List ByteArray) : List ByteArray)).bind fun y107 => (if y107.length + l0.length < 8796093022208 then ((some (y107 ++ l0 : List ByteArray)).bind fun y110 => (if y110.length < 8796093022208 then ((some (y110 ++ [(⟨#[109, 97, 114, 107]⟩ : ByteArray)] : List ByteArray)).bind fun y113 => (if 0 ≤ (l0.length : Int) then (if (l0.length : Int) ≤ (y113.length : Int) then (some (y113.take ((l0.length : Int) : Int).toNat)) else (none)) else (none))) else (none))) else (none))) = some r := h
  clear h
  obtain ⟨y107, hy107⟩ : ∃ y_ : List ByteArray, y_ = (([] : List ByteArray)) := ⟨_, rfl⟩
  replace H : (if y107.length + l0.length < 8796093022208 then ((some (y107 ++ l0 : List ByteArray)).bind fun y110 => (if y110.length < 8796093022208 then ((some (y110 ++ [(⟨#[109, 97, 114, 107]⟩ : ByteArray)] : List ByteArray)).bind fun y113 => (if 0 ≤ (l0.length : Int) then (if (l0.length : Int) ≤ (y113.length : Int) then (some (y113.take ((l0.length : Int) : Int).toNat)) else (none)) else (none))) else (none))) else (none)) = some r := by first | (rw [hy107]; with_reducible exact H) | (have H2_ := (Option.bind_some _ _).symm.trans H; rw [hy107]; with_reducible exact H2_) | (have H2_ := (Option.bind_some _ _).symm.trans H; with_reducible exact H2_) | with_reducible exact H | (rw [hy107]; exact H) | exact H
  have Ny107 := Aside0.mk hy107
  clear hy107
  by_cases c2 : y107.length + l0.length < 8796093022208
  · rw [if_pos c2] at H
    have LMc2 := Aside0.mk c2
    clear c2
    obtain ⟨y110, hy110⟩ : ∃ y_ : List ByteArray, y_ = (y107 ++ l0) := ⟨_, rfl⟩
    replace H : (if y110.length < 8796093022208 then ((some (y110 ++ [(⟨#[109, 97, 114, 107]⟩ : ByteArray)] : List ByteArray)).bind fun y113 => (if 0 ≤ (l0.length : Int) then (if (l0.length : Int) ≤ (y113.length : Int) then (some (y113.take ((l0.length : Int) : Int).toNat)) else (none)) else (none))) else (none)) = some r := by first | (rw [hy110]; with_reducible exact H) | (have H2_ := (Option.bind_some _ _).symm.trans H; rw [hy110]; with_reducible exact H2_) | (have H2_ := (Option.bind_some _ _).symm.trans H; with_reducible exact H2_) | with_reducible exact H | (rw [hy110]; exact H) | exact H
    have Ny110 := Aside0.mk hy110
    clear hy110
    by_cases c3 : y110.length < 8796093022208
    · rw [if_pos c3] at H
      have LMc3 := Aside0.mk c3
      clear c3
      obtain ⟨y113, hy113⟩ : ∃ y_ : List ByteArray, y_ = (y110 ++ [(⟨#[109, 97, 114, 107]⟩ : ByteArray)]) := ⟨_, rfl⟩
      replace H : (if 0 ≤ (l0.length : Int) then (if (l0.length : Int) ≤ (y113.length : Int) then (some (y113.take ((l0.length : Int) : Int).toNat)) else (none)) else (none)) = some r := by first | (rw [hy113]; with_reducible exact H) | (have H2_ := (Option.bind_some _ _).symm.trans H; rw [hy113]; with_reducible exact H2_) | (have H2_ := (Option.bind_some _ _).symm.trans H; with_reducible exact H2_) | with_reducible exact H | (rw [hy113]; exact H) | exact H
      have Ny113 := Aside0.mk hy113
      clear hy113
      by_cases c4 : 0 ≤ (l0.length : Int)
      · rw [if_pos c4] at H
        have c4b0 := eq_true c4
        have c4b1 : decide (0 ≤ (l0.length : Int)) = true := decide_eq_true c4
        (try (have c4b2 := eq_true (show 0 ≤ (c0 : Int) from by have h_ := HC0.out; omega)))
        clear c4
        by_cases c5 : (l0.length : Int) ≤ (y113.length : Int)
        · rw [if_pos c5] at H
          have c5b0 := eq_true c5
          have c5b1 : decide ((l0.length : Int) ≤ (y113.length : Int)) = true := decide_eq_true c5
          clear c5
          obtain ⟨y116, hy116⟩ : ∃ y_ : List ByteArray, y_ = (y113.take ((l0.length : Int) : Int).toNat) := ⟨_, rfl⟩
          replace H : (some y116) = some r := by first | (rw [hy116]; with_reducible exact H) | (have H2_ := (Option.bind_some _ _).symm.trans H; rw [hy116]; with_reducible exact H2_) | (have H2_ := (Option.bind_some _ _).symm.trans H; with_reducible exact H2_) | with_reducible exact H | (rw [hy116]; exact H) | exact H
          have Ny116 := Aside0.mk hy116
          clear hy116
          obtain rfl := Option.some.inj H
          go_enter Try.func10, Try.ntmps10
          go_wp2_with (first | ((with_reducible refine gate_dst (N := 4) rfl ?_); refine Kd.R_lit Kd.string _ 9 ?hg (N := 4) ?hd (xs := ([] : List ByteArray)) (inner := []) (ok := fun _ => True) (okp := fun _ => True) ?hr ?hp (fun _ hk => hk) trivial (Below.refl _ _) (Nat.le_refl _) (by simp) ?_; (case hd => rfl); (case hg => rfl); (case hr => first | (go_simp; done) | (go_simp; rfl)); (case hp => exact (Reps.none _ _)); intro v108 w6 ho7 hb hg_ hnew_; clear hg_ hnew_; (first | rw [← Ny107.out] at ho7 | (simp only [Int.reduceToNat] at ho7; rw [← Ny107.out] at ho7)); have n0_ := Aside0.mk (Kd.R_lower ho7 (below_size (by repeat (first | (with_reducible first | exact HB.out | apply below_alloc | apply pw_below_drewN | apply below_drew1) | exact HB.out)))); have n1_ := Aside0.mk (below_step (by repeat (first | (with_reducible first | exact HB.out | apply below_alloc | apply pw_below_drewN | apply below_drew1) | exact HB.out)) hb); clear HB; have HO109 := n0_; have HB := n1_; clear n0_ n1_; clear hb ho7) | ((with_reducible refine gate_builtin (b := .append) (xs := #[.tmp 4, .tmp 5]) rfl ?_); at_builtin; refine Kd.R_append_rows Kd.string (w0 := w) w.heap.size rfl (.tmp 4) (.tmp 5) 24 9 (.string ⟨#[]⟩) 16 rfl Try.underlying24 info9 rfl (by decide) (by omega) v108 y107 l0 _ _ _ (fun _ => True) (fun _ => False) rfl rfl ?aO ?aR (fun _ _ h => h) (fun _ h => h.elim) ?aF ?aB ?aS ?aL ?_; (case aR => repeat (first | exact (Kd.C_below HR0.out HB.out) | (with_reducible refine Kd.C_alloc ?_ _) | (with_reducible refine Kd.C_drewN ?_ _) | (with_reducible refine Kd.C_drew ?_))); (case aB => exact (by repeat (first | (with_reducible first | exact HB.out | apply below_alloc | apply pw_below_drewN | apply below_drew1) | exact HB.out))); (case aF => exact (fun _ _ => trivial)); (case aO => exact (by (with_reducible repeat (first | apply Kd.R_alloc | apply Kd.R_drewN | apply Kd.R_drew)); exact HO109.out)); (case aS => exact (below_size (by repeat (first | (with_reducible first | exact HB.out | apply below_alloc | apply pw_below_drewN | apply below_drew1) | exact HB.out)))); (case aL => have := LMc2.out; omega); intro v111 w8 ho hb hg hat; rw [← Ny110.out] at ho; have n0_ := Aside0.mk (hb); have n1_ := Aside0.mk (ho); clear HB; clear HO109; have HB := n0_; have HO112 := n1_; clear n0_ n1_; clear ho hb hg hat) | ((with_reducible refine gate_builtin (b := .append) (xs := #[.tmp 7, .tmp 8]) rfl ?_); at_builtin; refine Kd.R_append Kd.string (w0 := w) w.heap.size rfl (.tmp 7) (.tmp 8) 24 9 (.string ⟨#[]⟩) 16 rfl Try.underlying24 info9 rfl (by decide) (by omega) v111 y110 (⟨#[109, 97, 114, 107]⟩ : ByteArray) [.string (⟨#[109, 97, 114, 107]⟩ : ByteArray)] (fun _ => True) (fun _ => False) rfl rfl ?aP (fun _ hk => hk.elim) ?aF ?aO ?aB ?aS ?aL ?_; (case aP => exact rfl); (case aB => exact (by repeat (first | (with_reducible first | exact HB.out | apply below_alloc | apply pw_below_drewN | apply below_drew1) | exact HB.out))); (case aF => exact (fun _ _ => trivial)); (case aO => exact (by (with_reducible repeat (first | apply Kd.R_alloc | apply Kd.R_drewN | apply Kd.R_drew)); exact HO112.out)); (case aS => exact (below_size (by repeat (first | (with_reducible first | exact HB.out | apply below_alloc | apply pw_below_drewN | apply below_drew1) | exact HB.out)))); (case aL => have := LMc3.out; omega); intro v114 w9 ho hb hg hat; rw [← Ny113.out] at ho; have n0_ := Aside0.mk (hb); have n1_ := Aside0.mk (ho); clear HB; clear HO112; have HB := n0_; have HO115 := n1_; clear n0_ n1_; clear ho hb hg hat; obtain ⟨Ao10, co10, eo10⟩ := Kd.R_slice HO115.out; subst eo10; have q11 : ((l0.length : Int) : Int) ≤ ((y113.length : Int) : Int) := of_decide_eq_true (by first | (with_reducible assumption) | assumption); obtain ⟨i011, hi011, _, hsz11, _⟩ := info_parts info9; have hcut11 := cut_to (P := Try.prog) 24 9 .i64 Try.underlying24 hi011 Ao10 y113.length co10 (l0.length : Int) (of_decide_eq_true (by first | (with_reducible assumption) | assumption)) q11 (Kd.R_reads' HO115.out).2.1; have hr11 := Kd.R_take (m := ((l0.length : Int) : Int).toNat) HO115.out (by omega); have hy11 : y116.length = ((l0.length : Int) : Int).toNat := (by rw [Ny116.out, List.length_take]; omega); rw [← Ny116.out] at hr11; rw [← hy11] at hr11 hcut11; have HKEEP := HO115; clear hy11 hi011 hsz11 HO115; have HO118 := Aside0.mk hr11; clear hr11; replace q11 := eq_true q11))
          go_ret
          have e1 : y113 = l0 ++ [(⟨#[109, 97, 114, 107]⟩ : ByteArray)] := by rw [Ny113.out, Ny110.out, Ny107.out]; rfl
          have e2 : y116.length = l0.length := by rw [Ny116.out, e1]; simp
          have e3 : y113.length = l0.length + 1 := by rw [e1]; simp
          have q := HKEEP.out
          have qc := (Kd.R_reads' q).2.1
          rw [e3] at q qc
          rw [e1] at q
          exact ⟨Ao10, co10, by first | rfl | (simp; done) | (rw [e2]; rfl), qc, by (with_reducible repeat (first | apply Kd.R_alloc | apply Kd.R_drewN | apply Kd.R_drew)); exact q, by repeat (first | (with_reducible first | exact HB.out | apply below_alloc | apply pw_below_drewN | apply below_drew1) | exact HB.out)⟩
        · rw [if_neg c5] at H
          exact absurd H (by simp)
      · rw [if_neg c4] at H
        exact absurd H (by simp)
    · rw [if_neg c3] at H
      exact absurd H (by simp)
  · rw [if_neg c2] at H
    exact absurd H (by simp)

end Go.Proofs.Ytbjlfenappnccaa.P

end
section
-- Written by a program of this session (wip/tools/hprint.py, over the kit's printer), not by hand. Lean checks it.
namespace Go.Proofs.Ytbjlfenappnccaa.P
open Go.RowKit Go.Proofs.YtbjlfenappnccaaW.PrintWords Go.Proofs.YtbjlfenappnccaaW.PrintLast Go.Proofs.YtbjlfenappnccaaW.PrintMore
attribute [local go_sem] max2_int min2_int max_two min_two max_three min_three max_four min_four
set_option linter.unusedVariables false
set_option linter.unusedSimpArgs false

/-! ### winnowlaw14_sameTexts: function 16 -/
def winnowlaw14_sameTexts.l0 : Nat → List ByteArray → List ByteArray → Int → Option (Bool)
  | 0, _, _, _ => none
  | k + 1, x0, x1, x5 => if x5 < (x0.length : Int) then (if 0 ≤ x5 then (if x5 < (x1.length : Int) then (if (rdOf ByteArray.empty x0 x5).toList = (rdOf ByteArray.empty x1 x5).toList then (winnowlaw14_sameTexts.l0 k x0 x1 (wrap64 (x5 + 1))) else (some false)) else (none)) else (none)) else (some true)
def winnowlaw14_sameTexts.f (k : Nat) (l0 : List ByteArray) (l1 : List ByteArray) : Option (Bool) := if (l0.length : Int) = (l1.length : Int) then (winnowlaw14_sameTexts.l0 k l0 l1 0) else (some false)
theorem winnowlaw14_sameTexts.mono_l : ∀ k, (∀ y0 y1 y2, LeO (winnowlaw14_sameTexts.l0 k y0 y1 y2) (winnowlaw14_sameTexts.l0 (k + 1) y0 y1 y2))
  | 0 => fun _ _ _ r h => by simp [winnowlaw14_sameTexts.l0] at h
  | k + 1 => by
    have ih0 := winnowlaw14_sameTexts.mono_l k
    · intro y0 y1 y2
      unfold winnowlaw14_sameTexts.l0
      repeat' first
      | (with_reducible exact ih0 _ _ _)
      | (with_reducible exact LeO.refl _)
      | (with_reducible exact LeO.none _)
      | (with_reducible refine LeO.ite ?_ ?_)
      | (with_reducible refine LeO.bind ?_ (fun _ => ?_))
      | exact ih0 _ _ _
      | exact LeO.none _
      | refine LeO.ite ?_ ?_
      | refine LeO.bind ?_ (fun _ => ?_)
theorem winnowlaw14_sameTexts.mono : ∀ a0 a1 k, LeO (winnowlaw14_sameTexts.f k a0 a1) (winnowlaw14_sameTexts.f (k + 1) a0 a1) := by
  intro a0 a1 k
  have ih0 := winnowlaw14_sameTexts.mono_l k
  unfold winnowlaw14_sameTexts.f
  repeat' first
      | (with_reducible exact ih0 _ _ _)
      | (with_reducible exact LeO.refl _)
      | (with_reducible exact LeO.none _)
      | (with_reducible refine LeO.ite ?_ ?_)
      | (with_reducible refine LeO.bind ?_ (fun _ => ?_))
      | exact ih0 _ _ _
      | exact LeO.none _
      | refine LeO.ite ?_ ?_
      | refine LeO.bind ?_ (fun _ => ?_)
set_option maxHeartbeats 8000000 in
set_option maxRecDepth 100000 in
theorem winnowlaw14_sameTexts.calls (k : Nat) (A0 : Option Addr) (c0 : Nat) (l0 : List ByteArray) (A1 : Option Addr) (c1 : Nat) (l1 : List ByteArray) (r : Bool) (w : World) (hr0 : Kd.C Kd.string w A0 l0.length l0) (hc0 : l0.length ≤ c0) (hr1 : Kd.C Kd.string w A1 l1.length l1) (hc1 : l1.length ≤ c1) (h : winnowlaw14_sameTexts.f k l0 l1 = some r) :
    Calls Try.prog 16 #[.slice A0 l0.length c0, .slice A1 l1.length c1] w fun e w' => e = .returned (.bool r) ∧ Drawn0 w w' := by
  have HR0 := Aside0.mk hr0
  have HC0 := Aside0.mk hc0
  clear hr0 hc0
  have HR1 := Aside0.mk hr1
  have HC1 := Aside0.mk hc1
  clear hr1 hc1
  have H : (if (l0.length : Int) = (l1.length : Int) then (winnowlaw14_sameTexts.l0 k l0 l1 0) else (some false)) = some r := h
  clear h
  by_cases c3 : (l0.length : Int) = (l1.length : Int)
  · rw [if_pos c3] at H
    have c3b0 : ((l0.length : Int) == (l1.length : Int)) = true := beq_iff_eq.mpr c3
    have c3b1 : ((l0.length : Int) != (l1.length : Int)) = false := bne_eq_false_iff_eq.mpr c3
    have c3b2 : (l0.length == l1.length) = true := by first | simpa using c3 | (simp at c3 ⊢; omega)
    clear c3
    have H' := Aside0.mk H
    clear H
    go_enter Try.func16, Try.ntmps16
    go_wp2
    repeat (go_quiet (fail); try go_wp2)
    go_loopg [5] k (fun kq v5 w' => ∃ (x5_1 : Int), v5 = .int .i64 x5_1 ∧ Aside0 (winnowlaw14_sameTexts.l0 kq l0 l1 x5_1 = some r) ∧ Aside0 (kq ≤ k) ∧ Drawn0 w w')
    case atStart => exact ⟨(0), (by first | rfl | (simp; done) | (simp [*]; done)), H', ⟨Nat.le_refl _⟩, by repeat (first | exact Drawn0.refl _ | apply Drawn0.step)⟩
    case round =>
      clear H'
      try clear c1
      try clear p2
      try clear c3
      try clear c3b0
      try clear c3b1
      try clear c3b2
      obtain ⟨x5_1, rfl, HA, HK1, ⟨m1, rfl⟩⟩ := hrel
      cases gk with
      | zero => exact absurd HA.out (by simp [winnowlaw14_sameTexts.l0])
      | succ k1 =>
        have H := HA.out
        clear HA
        simp only [winnowlaw14_sameTexts.l0] at H
        by_cases c4 : x5_1 < (l0.length : Int)
        · rw [if_pos c4] at H
          have c4b0 : decide (x5_1 < (l0.length : Int)) = true := decide_eq_true c4
          clear c4
          by_cases c5 : 0 ≤ x5_1
          · rw [if_pos c5] at H
            have c5b0 : decide (0 ≤ x5_1) = true := decide_eq_true c5
            clear c5
            by_cases c6 : x5_1 < (l1.length : Int)
            · rw [if_pos c6] at H
              have c6b0 : decide (x5_1 < (l1.length : Int)) = true := decide_eq_true c6
              clear c6
              by_cases c7 : (rdOf ByteArray.empty l0 x5_1).toList = (rdOf ByteArray.empty l1 x5_1).toList
              · rw [if_pos c7] at H
                have c7b0 : ((rdOf ByteArray.empty l0 x5_1).toList == (rdOf ByteArray.empty l1 x5_1).toList) = true := beq_iff_eq.mpr c7
                have c7b1 : ((rdOf ByteArray.empty l0 x5_1).toList != (rdOf ByteArray.empty l1 x5_1).toList) = false := bne_eq_false_iff_eq.mpr c7
                clear c7
                have H' := Aside0.mk H
                clear H
                have p150 : 0 ≤ (x5_1 : Int) := of_decide_eq_true (by first | (with_reducible assumption) | assumption)
                have q150 : x5_1 < (l0.length : Int) := of_decide_eq_true (by first | (with_reducible assumption) | assumption)
                obtain ⟨ad150, e150, hx150_0⟩ := Kd.at_string HR0.out x5_1 p150 q150
                cases e150
                replace p150 := eq_true p150
                replace q150 := eq_true q150
                have p151 : 0 ≤ (x5_1 : Int) := of_decide_eq_true (by first | (with_reducible assumption) | assumption)
                have q151 : x5_1 < (l1.length : Int) := of_decide_eq_true (by first | (with_reducible assumption) | assumption)
                obtain ⟨ad151, e151, hx151_0⟩ := Kd.at_string HR1.out x5_1 p151 q151
                cases e151
                replace p151 := eq_true p151
                replace q151 := eq_true q151
                go_wp2
                repeat (go_quiet (fail); try go_wp2)
                go_roundg k1
                case measure => have := HK1.out; omega
                case rel => exact ⟨(wrap64 (x5_1 + 1)), (by first | rfl | (simp; done) | (simp [*]; done)), H', ⟨by have := HK1.out; omega⟩, by repeat (first | exact Drawn0.refl _ | apply Drawn0.step)⟩
              · rw [if_neg c7] at H
                have c7b0 : ((rdOf ByteArray.empty l0 x5_1).toList == (rdOf ByteArray.empty l1 x5_1).toList) = false := beq_eq_false_iff_ne.mpr c7
                have c7b1 : ((rdOf ByteArray.empty l0 x5_1).toList != (rdOf ByteArray.empty l1 x5_1).toList) = true := bne_iff_ne.mpr c7
                obtain rfl := Option.some.inj H
                have p150 : 0 ≤ (x5_1 : Int) := of_decide_eq_true (by first | (with_reducible assumption) | assumption)
                have q150 : x5_1 < (l0.length : Int) := of_decide_eq_true (by first | (with_reducible assumption) | assumption)
                obtain ⟨ad150, e150, hx150_0⟩ := Kd.at_string HR0.out x5_1 p150 q150
                cases e150
                replace p150 := eq_true p150
                replace q150 := eq_true q150
                have p151 : 0 ≤ (x5_1 : Int) := of_decide_eq_true (by first | (with_reducible assumption) | assumption)
                have q151 : x5_1 < (l1.length : Int) := of_decide_eq_true (by first | (with_reducible assumption) | assumption)
                obtain ⟨ad151, e151, hx151_0⟩ := Kd.at_string HR1.out x5_1 p151 q151
                cases e151
                replace p151 := eq_true p151
                replace q151 := eq_true q151
                go_wp2
                repeat (go_quiet (fail); try go_wp2)
                go_ret
                exact ⟨by first | rfl | (simp; done) | (simp [*]; done), by repeat (first | exact Drawn0.refl _ | apply Drawn0.step)⟩
            · rw [if_neg c6] at H
              exact absurd H (by simp)
          · rw [if_neg c5] at H
            exact absurd H (by simp)
        · rw [if_neg c4] at H
          have c4b0 : decide (x5_1 < (l0.length : Int)) = false := decide_eq_false c4
          clear c4
          obtain rfl := Option.some.inj H
          go_wp2
          repeat (go_quiet (fail); try go_wp2)
          go_ret
          exact ⟨by first | rfl | (simp; done) | (simp [*]; done), by repeat (first | exact Drawn0.refl _ | apply Drawn0.step)⟩
  · rw [if_neg c3] at H
    have c3b0 : ((l0.length : Int) == (l1.length : Int)) = false := beq_eq_false_iff_ne.mpr c3
    have c3b1 : ((l0.length : Int) != (l1.length : Int)) = true := bne_iff_ne.mpr c3
    have c3b2 : (l0.length == l1.length) = false := by first | simpa using c3 | (simp at c3 ⊢; omega)
    obtain rfl := Option.some.inj H
    go_enter Try.func16, Try.ntmps16
    go_wp2
    repeat (go_quiet (fail); try go_wp2)
    go_ret
    exact ⟨by first | rfl | (simp; done) | (simp [*]; done), by repeat (first | exact Drawn0.refl _ | apply Drawn0.step)⟩

end Go.Proofs.Ytbjlfenappnccaa.P

end
