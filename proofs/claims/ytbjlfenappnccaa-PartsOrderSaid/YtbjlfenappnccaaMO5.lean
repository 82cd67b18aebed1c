/- Several texts laid together (wip/tools/merge2.py): PartsPlain, BoundsPlain, SortBPlain, Pf16, Pf13, HKept. -/
import Derived.Test.YtbjlfenappnccaaMO3
import Derived.Test.YtbjlfenappnccaaMO4
import Derived.Test.YtbjlfenappnccaaMO1
import Derived.Outline
section
/- Check, Range and their documents' answers, in plain lists. -/
namespace Go.Proofs.Ytbjlfenappnccaa.P
open Go.RowKit Go.Proofs.YtbjlfenappnccaaW.PrintWords Go.Proofs.YtbjlfenappnccaaW.PrintLast Go.Proofs.Ytbjlfenappnccaa.Hand
set_option linter.unusedVariables false

theorem rdb_nat (l : List ByteArray) (i : Nat) (h : i < l.length) : rdOf ByteArray.empty l (i : Int) = l[i] := by
  unfold rdOf
  rw [Int.toNat_natCast, List.getD_eq_getElem?_getD, List.getElem?_eq_getElem h]
  rfl
theorem wrap_pred (i : Nat) (h : i ≤ 140737488355328) : wrap64 (((i + 1 : Nat) : Int) - 1) = (i : Int) := by unfold wrap64; omega
theorem wrap_succB (i : Nat) (h : i ≤ 140737488355328) : wrap64 ((i : Int) + 1) = ((i + 1 : Nat) : Int) := by unfold wrap64; omega
/-! ### the document's Compare -/
theorem Common_loop (a b : ByteArray) (ha : a.size ≤ 140737488355328) (d : Nat) : ∀ (k i : Nat), i + d = a.size → i ≤ b.size → d < k →
    ∃ j : Nat, winnowref2_Common.l0 k a b (i : Int) = some (j : Int) ∧ j ≤ a.size ∧ j ≤ b.size ∧ cmpL (a.data.toList.drop i) (b.data.toList.drop i) = cmpL (a.data.toList.drop j) (b.data.toList.drop j) ∧ (∀ (h1 : j < a.size) (h2 : j < b.size), bt a j ≠ bt b j) := by
  induction d with
  | zero =>
    intro k i hi hb hk
    obtain ⟨k, rfl⟩ : ∃ m, k = m + 1 := ⟨k - 1, by omega⟩
    rw [winnowref2_Common.l0, if_neg (by omega)]
    exact ⟨i, rfl, by omega, hb, rfl, fun h1 _ => by omega⟩
  | succ d ih =>
    intro k i hi hb hk
    obtain ⟨k, rfl⟩ : ∃ m, k = m + 1 := ⟨k - 1, by omega⟩
    have h1 : i < a.size := by omega
    rw [winnowref2_Common.l0, if_pos (by omega)]
    by_cases h2 : i < b.size
    · rw [if_pos (by omega), if_pos (by omega)]
      by_cases he : bt a (i : Int) = bt b (i : Int)
      · rw [if_pos he, wrap_succB i (by omega)]
        obtain ⟨j, q1, q2, q3, q4, q5⟩ := ih k (i + 1) (by omega) (by omega) (by omega)
        refine ⟨j, q1, q2, q3, ?_, q5⟩
        rw [← q4, drop_cons a i h1, drop_cons b i h2, cmpL_cons]
        have e1 := bt_get a i h1
        have e2 := bt_get b i h2
        rw [if_neg (by omega), if_neg (by omega)]
      · rw [if_neg he]
        exact ⟨i, rfl, by omega, by omega, rfl, fun _ _ => he⟩
    · rw [if_neg (by omega)]
      exact ⟨i, rfl, by omega, hb, rfl, fun _ h => absurd h h2⟩
theorem RefCompare_eq (a b : ByteArray) (ha : a.size ≤ 140737488355328) (k : Nat) (hk : a.size + 1 < k) : winnowref2_Compare.f k a b = some (cmpL a.toList b.toList) := by
  obtain ⟨k, rfl⟩ : ∃ m, k = m + 1 := ⟨k - 1, by omega⟩
  obtain ⟨j, q1, q2, q3, q4, q5⟩ := Common_loop a b ha a.size (k + 1) 0 (by omega) (Nat.zero_le _) (by omega)
  unfold winnowref2_Compare.f winnowref2_Common.f
  rw [show (0 : Int) = ((0 : Nat) : Int) from rfl, q1, Option.bind_some]
  rw [ByteArray.toList_eq, ByteArray.toList_eq]
  rw [List.drop_zero, List.drop_zero] at q4
  rw [q4]
  rcases Nat.lt_or_ge j a.size with h1 | h1
  · rw [if_neg (by omega), winnowref2_Compare.j0, if_neg (by decide), if_neg (by omega)]
    rcases Nat.lt_or_ge j b.size with h2 | h2
    · rw [if_neg (by omega), if_pos (by omega), if_pos (by omega), if_pos (by omega)]
      have hne := q5 h1 h2
      have e1 := bt_get a j h1
      have e2 := bt_get b j h2
      rw [drop_cons a j h1, drop_cons b j h2, cmpL_cons]
      by_cases hlt : bt a (j : Int) < bt b (j : Int)
      · rw [if_pos hlt, if_pos (by omega)]
      · rw [if_neg hlt, if_neg (by omega), if_pos (by omega)]
    · rw [if_pos (by omega), drop_cons a j h1, List.drop_of_length_le (l := b.data.toList) (by simp; omega), cmpL_nil_right]
      simp
  · rw [if_pos (by omega)]
    rcases Nat.lt_or_ge j b.size with h2 | h2
    · have hd : ((j : Int) == (b.size : Int)) = false := by simp; omega
      rw [hd, winnowref2_Compare.j0, if_neg (by decide), if_pos (by omega), List.drop_of_length_le (l := a.data.toList) (by simp; omega), cmpL_nil_left, if_neg (by simp; omega)]
    · have hd : ((j : Int) == (b.size : Int)) = true := by simp; omega
      rw [hd, winnowref2_Compare.j0, if_pos rfl, List.drop_of_length_le (l := a.data.toList) (by simp; omega), List.drop_of_length_le (l := b.data.toList) (by simp; omega), cmpL_nil_left]
      rfl
/-! ### Range -/
/-- how many stand at or ahead of the key -/
def cnt (key : ByteArray) (l : List ByteArray) : Nat := (l.filter fun b => decide (cmpL b.toList key.toList ≤ 0)).length
theorem cnt_le (key : ByteArray) (l : List ByteArray) : cnt key l ≤ l.length := List.length_filter_le _ _
theorem cnt_cons (key b : ByteArray) (l : List ByteArray) : cnt key (b :: l) = (if cmpL b.toList key.toList ≤ 0 then cnt key l + 1 else cnt key l) := by
  unfold cnt
  rw [List.filter_cons]
  by_cases h : cmpL b.toList key.toList ≤ 0
  · rw [if_pos h, if_pos (by simpa using h)]; rfl
  · rw [if_neg h, if_neg (by simpa using h)]
def szs (l : List ByteArray) : Prop := l.length ≤ 140737488351232 ∧ ∀ b ∈ l, b.size ≤ 140737488351233
instance (l : List ByteArray) : Decidable (szs l) := by unfold szs; infer_instance
theorem Range_loop (l : List ByteArray) (key : ByteArray) (hl : szs l) (d : Nat) : ∀ (k i c : Nat), i + d = l.length → c ≤ i → d + 140737488351300 < k →
    parts_Range.l0 k key (c : Int) l (l.length : Int) (i : Int) = some ((c + cnt key (l.drop i) : Nat) : Int) ∧ winnowref14_Range.l0 k l key (c : Int) (i : Int) = some ((c + cnt key (l.drop i) : Nat) : Int) := by
  induction d with
  | zero =>
    intro k i c hi hc hk
    obtain ⟨k, rfl⟩ : ∃ m, k = m + 1 := ⟨k - 1, by omega⟩
    rw [parts_Range.l0, if_neg (by omega), winnowref14_Range.l0, if_neg (by omega), List.drop_of_length_le (by omega)]
    exact ⟨rfl, rfl⟩
  | succ d ih =>
    intro k i c hi hc hk
    obtain ⟨k, rfl⟩ : ∃ m, k = m + 1 := ⟨k - 1, by omega⟩
    have h : i < l.length := by omega
    have hb := hl.2 _ (List.getElem_mem h)
    have hll := hl.1
    rw [parts_Range.l0, if_pos (by omega), if_pos (by omega), if_pos (by omega), winnowref14_Range.l0, if_pos (by omega), if_pos (by omega), rdb_nat l i h, nums_Compare_eq _ _ (by omega) k (by omega), RefCompare_eq _ _ (by omega) k (by omega), Option.bind_some, Option.bind_some,
      wrap_succB i (by omega), wrap_succB c (by omega), List.drop_eq_getElem_cons h, cnt_cons]
    by_cases hp : cmpL l[i].toList key.toList ≤ 0
    · rw [if_pos hp, if_pos hp, if_pos hp]
      have := ih k (i + 1) (c + 1) (by omega) (by omega) (by omega)
      rw [show c + (cnt key (l.drop (i + 1)) + 1) = c + 1 + cnt key (l.drop (i + 1)) by omega]
      exact this
    · rw [if_neg hp, if_neg hp, if_neg hp]
      exact ih k (i + 1) c (by omega) (by omega) (by omega)
theorem Range_eq (l : List ByteArray) (key : ByteArray) (hl : szs l) (k : Nat) (hk : l.length + 140737488351300 < k) : parts_Range.f k l key = some (cnt key l : Int) ∧ winnowref14_Range.f k l key = some (cnt key l : Int) := by
  have := Range_loop l key hl l.length k 0 0 (by omega) (Nat.le_refl _) hk
  rw [List.drop_zero, Nat.zero_add] at this
  exact this
/-! ### Check -/
def okAt (l : List ByteArray) (j : Nat) : Prop := ∀ h : j < l.length, l[j].size ≤ 1024 ∧ (∀ i, (hi : i + 1 = j) → 0 ≤ cmpL l[j].toList (l[i]'(by omega)).toList)
def okBB (l : List ByteArray) (j : Nat) : Bool := if h : j < l.length then decide (l[j].size ≤ 1024) && (if h0 : 0 < j then decide (0 ≤ cmpL l[j].toList (l[j - 1]'(by omega)).toList) else true) else true
theorem okBB_iff (l : List ByteArray) (j : Nat) : okBB l j = true ↔ okAt l j := by
  unfold okBB okAt
  by_cases h : j < l.length
  · rw [dif_pos h, Bool.and_eq_true, decide_eq_true_iff]
    cases j with
    | zero =>
      rw [dif_neg (Nat.lt_irrefl 0)]
      exact ⟨fun q _ => ⟨q.1, fun i hi => by omega⟩, fun q => ⟨(q h).1, rfl⟩⟩
    | succ i =>
      rw [dif_pos (Nat.succ_pos i), decide_eq_true_iff]
      exact ⟨fun q _ => ⟨q.1, fun i' hi' => by (have e : i' = i := by omega); subst e; exact q.2⟩, fun q => ⟨(q h).1, (q h).2 i rfl⟩⟩
  · rw [dif_neg h]
    exact ⟨fun _ q => absurd q h, fun _ => rfl⟩
def okI (l : List ByteArray) (i : Nat) : Int := if (List.range l.length).all (fun j => decide (j < i) || okBB l j) = true then 0 else 140
theorem okI_all (l : List ByteArray) (i : Nat) : (List.range l.length).all (fun j => decide (j < i) || okBB l j) = true ↔ ∀ j, i ≤ j → okAt l j := by
  rw [List.all_eq_true]
  constructor
  · intro q j hj
    by_cases h : j < l.length
    · have := q j (List.mem_range.2 h)
      rw [Bool.or_eq_true, decide_eq_true_iff, okBB_iff] at this
      exact this.resolve_left (by omega)
    · exact fun h' => absurd h' h
  · intro q j hj
    rw [Bool.or_eq_true, decide_eq_true_iff, okBB_iff]
    by_cases h : j < i
    · exact .inl h
    · exact .inr (q j (by omega))
theorem okI_bad (l : List ByteArray) (i : Nat) (h : ¬ okAt l i) : okI l i = 140 := if_neg (fun q => h ((okI_all l i).1 q i (Nat.le_refl _)))
theorem okI_end (l : List ByteArray) (i : Nat) (h : l.length ≤ i) : okI l i = 0 := if_pos ((okI_all l i).2 (fun j hj hlt => by omega))
theorem okI_next (l : List ByteArray) (i : Nat) (h : okAt l i) : okI l i = okI l (i + 1) := by
  unfold okI
  by_cases q : ∀ j, i + 1 ≤ j → okAt l j
  · rw [if_pos ((okI_all l (i + 1)).2 q), if_pos ((okI_all l i).2 (fun j hj => by rcases Nat.eq_or_lt_of_le hj with e | e; (subst e; exact h); exact q j e))]
  · rw [if_neg (fun e => q ((okI_all l (i + 1)).1 e)), if_neg (fun e => q (fun j hj => (okI_all l i).1 e j (by omega)))]
theorem Check_loops (l : List ByteArray) (hl : szs l) (a b : Int) (c : Bool) (e f g h1 h2 h3 : Int) (d : Nat) : ∀ (k i : Nat), i + d = l.length → d + 140737488351300 < k →
    parts_Check.l0 k l (l.length : Int) (i : Int) a b l c e f g h1 h2 h3 = some (okI l i) ∧ winnowref14_Check.l0 k (i : Int) a b l c e f g h1 h2 h3 = some (okI l i) := by
  induction d with
  | zero =>
    intro k i hi hk
    obtain ⟨k, rfl⟩ : ∃ m, k = m + 1 := ⟨k - 1, by omega⟩
    rw [parts_Check.l0, if_neg (by omega), winnowref14_Check.l0, if_neg (by omega), okI_end l i (by omega)]
    exact ⟨rfl, rfl⟩
  | succ d ih =>
    intro k i hi hk
    obtain ⟨k, rfl⟩ : ∃ m, k = m + 1 := ⟨k - 1, by omega⟩
    have h : i < l.length := by omega
    have hb := hl.2 _ (List.getElem_mem h)
    have hll := hl.1
    have c1 : ((i : Nat) : Int) < (l.length : Int) := Int.ofNat_lt.2 h
    have c0 : (0 : Int) ≤ ((i : Nat) : Int) := Int.natCast_nonneg i
    rw [parts_Check.l0, if_pos c1, if_pos c0, if_pos c1, winnowref14_Check.l0, if_pos c1, if_pos c0, rdb_nat l i h]
    by_cases hsz : (l[i].size : Int) > 1024
    · rw [if_pos hsz, if_pos hsz, okI_bad l i (fun q => by have := (q h).1; omega)]
      exact ⟨rfl, rfl⟩
    · rw [if_neg hsz, if_neg hsz]
      cases i with
      | zero =>
        have hok : okAt l 0 := fun _ => ⟨by omega, fun i hi => by omega⟩
        have c2 : ¬ (((0 : Nat) : Int) > 0) := by decide
        rw [if_neg c2, if_neg c2, wrap_succB 0 (by omega), okI_next l 0 hok]
        exact ih k 1 (by omega) (by omega)
      | succ i =>
        have c2 : ((i + 1 : Nat) : Int) > 0 := by omega
        have c3 : (0 : Int) ≤ ((i : Nat) : Int) := Int.natCast_nonneg i
        have c4 : ((i : Nat) : Int) < (l.length : Int) := by omega
        rw [if_pos c2, if_pos c2, wrap_pred i (by omega), if_pos c3, if_pos c4, if_pos c3, if_pos c4, rdb_nat l i (by omega), nums_Compare_eq _ _ (by omega) k (by omega), RefCompare_eq _ _ (by omega) k (by omega), Option.bind_some, Option.bind_some]
        by_cases hp : cmpL l[i + 1].toList l[i].toList < 0
        · rw [if_pos hp, if_pos hp, okI_bad l (i + 1) (fun q => by have := (q h).2 i rfl; omega)]
          exact ⟨rfl, rfl⟩
        · have hok : okAt l (i + 1) := fun _ => ⟨by omega, fun j hj => by (have e : j = i := by omega); subst e; omega⟩
          rw [if_neg hp, if_neg hp, wrap_succB (i + 1) (by omega), okI_next l (i + 1) hok]
          exact ih k (i + 2) (by omega) (by omega)
/-- what Check answers -/
def chk (n : Int) (l : List ByteArray) : Int := if 1 ≤ n ∧ n ≤ 65535 then (if l.length = 0 then 0 else if (l.length : Int) = n - 1 then okI l 0 else 140) else 3
theorem Check_eq (l : List ByteArray) (hl : szs l) (a b : Int) (c : Bool) (e f g h1 h2 h3 : Int) (hb : -9223372036854775808 ≤ b ∧ b ≤ 9223372036854775807) (k : Nat) (hk : l.length + 140737488351310 < k) :
    parts_Check.f k a b l c e f g h1 h2 h3 = some (chk b l) ∧ winnowref14_Check.f k a b l c e f g h1 h2 h3 = some (chk b l) := by
  obtain ⟨k, rfl⟩ : ∃ m, k = m + 1 := ⟨k - 1, by omega⟩
  have hloops : parts_Check.l0 k l (l.length : Int) 0 a b l c e f g h1 h2 h3 = some (okI l 0) ∧ winnowref14_Check.l0 k 0 a b l c e f g h1 h2 h3 = some (okI l 0) := Check_loops l hl a b c e f g h1 h2 h3 l.length k 0 (by omega) (by omega)
  unfold parts_Check.f parts_good.f winnowref14_Check.f chk
  by_cases hb1 : b ≥ 1
  · rw [if_pos hb1, Option.bind_some, if_neg (show ¬ b < 1 by omega)]
    by_cases hb2 : b ≤ 65535
    · have hw : wrap64 (b - 1) = b - 1 := by unfold wrap64; omega
      have d1 : decide (b ≤ 65535) = true := decide_eq_true hb2
      have d2 : decide (b > 65535) = false := decide_eq_false (by omega)
      rw [d1, d2, if_pos rfl, if_pos (⟨hb1, hb2⟩ : 1 ≤ b ∧ b ≤ 65535), winnowref14_Check.j0, if_neg (show ¬ (false = true) by decide), hw]
      by_cases hz : l.length = 0
      · rw [if_neg (show ¬ (l.length : Int) > 0 by omega), if_pos (show (l.length : Int) = 0 by omega), if_pos hz, parts_Check.j0, if_neg (show ¬ (false = true) by decide), hloops.1, okI_end l 0 (by omega)]
        exact ⟨rfl, rfl⟩
      · rw [if_pos (show (l.length : Int) > 0 by omega), if_neg (show ¬ (l.length : Int) = 0 by omega), if_neg hz]
        by_cases he : (l.length : Int) = b - 1
        · have d3 : ((l.length : Int) != b - 1) = false := by simp [he]
          rw [d3, parts_Check.j0, if_neg (show ¬ (false = true) by decide), if_pos he, if_pos he]
          exact hloops
        · have d3 : ((l.length : Int) != b - 1) = true := by simp [he]
          rw [d3, parts_Check.j0, if_pos rfl, if_neg he, if_neg he]
          exact ⟨rfl, rfl⟩
    · have d1 : decide (b ≤ 65535) = false := decide_eq_false hb2
      have d2 : decide (b > 65535) = true := decide_eq_true (by omega)
      rw [d1, d2, if_neg (show ¬ (false = true) by decide), if_neg (show ¬ (1 ≤ b ∧ b ≤ 65535) by omega), winnowref14_Check.j0, if_pos rfl]
      exact ⟨rfl, rfl⟩
  · rw [if_neg hb1, Option.bind_some, if_neg (show ¬ (false = true) by decide), if_pos (show b < 1 by omega), if_neg (show ¬ (1 ≤ b ∧ b ≤ 65535) by omega), winnowref14_Check.j0, if_pos rfl]
    exact ⟨rfl, rfl⟩
/-! ### a sorted list's search -/
theorem okI_sorted {l : List ByteArray} (h : okI l 0 = 0) : ∀ j, okAt l j := by
  by_cases q : (List.range l.length).all (fun j => decide (j < 0) || okBB l j) = true
  · exact fun j => (okI_all l 0).1 q j (Nat.zero_le _)
  · rw [okI, if_neg q] at h
    cases h
theorem cnt_split (key : ByteArray) : ∀ l : List ByteArray, (∀ j, (h : j + 1 < l.length) → atOr key l[j + 1] → atOr key l[j]) → ∀ i, (h : i < l.length) → (i < cnt key l ↔ atOr key l[i]) := by
  intro l
  induction l with
  | nil => intro _ i h; simp at h
  | cons b l ih =>
    intro hm i h
    rw [cnt_cons]
    have ih' := ih (fun j hj hp => hm (j + 1) (by simp; omega) hp)
    by_cases hb : cmpL b.toList key.toList ≤ 0
    · rw [if_pos hb]
      cases i with
      | zero => exact ⟨fun _ => hb, fun _ => by omega⟩
      | succ i =>
        have := ih' i (by simpa using h)
        rw [List.getElem_cons_succ, ← this]
        omega
    · rw [if_neg hb]
      have hno : ∀ i, (h : i < (b :: l).length) → ¬ atOr key (b :: l)[i] := by
        intro i
        induction i with
        | zero => intro h hp; exact hb hp
        | succ i ihi => intro h hp; exact ihi (by simp at h ⊢; omega) (hm i h hp)
      have hz : cnt key l = 0 := by
        rcases Nat.eq_zero_or_pos (cnt key l) with hz | hz
        · exact hz
        · have hl0 : 0 < l.length := Nat.lt_of_lt_of_le hz (cnt_le key l)
          exact absurd ((ih' 0 hl0).1 hz) (hno 1 (by simp; omega))
      rw [hz]
      exact ⟨fun q => by omega, fun q => absurd q (hno i h)⟩
theorem sorted_split (key : ByteArray) (l : List ByteArray) (h : ∀ j, okAt l j) : ∀ i, (hi : i < l.length) → (i < cnt key l ↔ atOr key l[i]) := by
  refine cnt_split key l (fun j hj hp => ?_)
  have := (h (j + 1) hj).2 j rfl
  refine cmpL_trans ?_ hp
  have q := (cmpL_swap l[j + 1].toList l[j].toList)
  by_cases c : cmpL l[j].toList l[j + 1].toList ≤ 0
  · exact c
  · have := q.2 c
    omega
end Go.Proofs.Ytbjlfenappnccaa.P

end
section
/- parts.Bounds' answer in plain lists. -/
namespace Go.Proofs.Ytbjlfenappnccaa.P
open Go.RowKit Go.Proofs.YtbjlfenappnccaaW.PrintWords Go.Proofs.YtbjlfenappnccaaW.PrintLast Go.Proofs.Ytbjlfenappnccaa.Hand
set_option linter.unusedVariables false

/-- the bounds of n parts, of keys in order -/
def atB (s : List ByteArray) (n i : Nat) : ByteArray := if s.length = 0 then ByteArray.empty else s.getD ((i + 1) * s.length / n) ByteArray.empty
def blB (s : List ByteArray) (n : Nat) : List ByteArray := (List.range (n - 1)).map (atB s n)
theorem blB_length (s : List ByteArray) (n : Nat) : (blB s n).length = n - 1 := by simp [blB]
/-- what Bounds answers -/
def boundsOf (l : List ByteArray) (n : Int) : List ByteArray × Int :=
  if 65536 < l.length then ([], 2) else if 1 ≤ n ∧ n ≤ 65535 then (if ∀ b ∈ l, b.size ≤ 1024 then (blB (sortB l) n.toNat, 0) else ([], 140)) else ([], 3)
theorem bo_long {l : List ByteArray} {n : Int} (h : 65536 < l.length) : boundsOf l n = ([], 2) := if_pos h
theorem bo_arg {l : List ByteArray} {n : Int} (h : ¬ 65536 < l.length) (h2 : ¬ (1 ≤ n ∧ n ≤ 65535)) : boundsOf l n = ([], 3) := by unfold boundsOf; rw [if_neg h, if_neg h2]
theorem bo_bad {l : List ByteArray} {n : Int} (h : ¬ 65536 < l.length) (h2 : 1 ≤ n ∧ n ≤ 65535) (i : Nat) (hi : i < l.length) (hb : 1024 < l[i].size) : boundsOf l n = ([], 140) := by
  unfold boundsOf; rw [if_neg h, if_pos h2, if_neg (fun q => by have := q _ (List.getElem_mem hi); omega)]
theorem bo_ok {l : List ByteArray} {n : Int} (h : ¬ 65536 < l.length) (h2 : 1 ≤ n ∧ n ≤ 65535) (hx : ∀ b ∈ l, b.size ≤ 1024) : boundsOf l n = (blB (sortB l) n.toNat, 0) := by
  unfold boundsOf; rw [if_neg h, if_pos h2, if_pos hx]
/-- the list when i of its places are written -/
def plB (s : List ByteArray) (n i : Nat) : List ByteArray := ((blB s n).take i) ++ List.replicate (n - 1 - i) ByteArray.empty
theorem plB_length (s : List ByteArray) (n i : Nat) (h : i ≤ n - 1) : (plB s n i).length = n - 1 := by simp [plB, blB_length]; omega
theorem plB_zero (s : List ByteArray) (n : Nat) : plB s n 0 = List.replicate (n - 1) ByteArray.empty := by simp [plB]
theorem plB_end (s : List ByteArray) (n : Nat) : plB s n (n - 1) = blB s n := by
  unfold plB
  rw [Nat.sub_self, List.replicate_zero, List.append_nil, List.take_of_length_le (by rw [blB_length]; omega)]
theorem plB_set (s : List ByteArray) (n i : Nat) (h : i < n - 1) : (plB s n i).set i (atB s n i) = plB s n (i + 1) := by
  unfold plB
  have hl : ((blB s n).take i).length = i := by simp [blB_length]; omega
  rw [List.set_append_right _ _ (by omega), hl, Nat.sub_self, show n - 1 - i = (n - 1 - (i + 1)) + 1 by omega, List.replicate_succ, List.set_cons_zero, List.take_succ_eq_append_getElem (by rw [blB_length]; omega), List.append_assoc]
  congr 1
  simp [blB]
theorem plB_empty (s : List ByteArray) (n i : Nat) (h : i < n - 1) (hs : s.length = 0) : plB s n i = plB s n (i + 1) := by
  rw [← plB_set s n i h]
  have e : atB s n i = ByteArray.empty := if_pos hs
  rw [e]
  unfold plB
  have hl : ((blB s n).take i).length = i := by simp [blB_length]; omega
  rw [List.set_append_right _ _ (by omega), hl, Nat.sub_self, show n - 1 - i = (n - 1 - (i + 1)) + 1 by omega, List.replicate_succ, List.set_cons_zero]
theorem at_lt (m n i : Nat) (hm : 0 < m) (hi : i + 1 < n) : (i + 1) * m / n < m := by
  rw [Nat.div_lt_iff_lt_mul (by omega)]
  rw [Nat.mul_comm m n]
  exact (Nat.mul_lt_mul_right hm).2 hi
end Go.Proofs.Ytbjlfenappnccaa.P

end
section
/- Keys in order: what sortB and the bounds of it are. -/
namespace Go.Proofs.Ytbjlfenappnccaa.P
open Go.RowKit Go.Proofs.YtbjlfenappnccaaW.PrintWords Go.Proofs.YtbjlfenappnccaaW.PrintLast Go.Proofs.Ytbjlfenappnccaa.Hand
set_option linter.unusedVariables false

theorem leB_trans (a b c : ByteArray) (h1 : leB a b = true) (h2 : leB b c = true) : leB a c = true := by
  unfold leB at *
  simp only [Bool.not_eq_true'] at *
  exact bl_trans _ _ _ h1 h2
theorem leB_total (a b : ByteArray) : (leB a b || leB b a) = true := by
  unfold leB
  by_cases h : Op.bytesLess a.toList b.toList = true
  · rw [bl_asymm _ _ h]; simp
  · have h' : Op.bytesLess a.toList b.toList = false := by simpa using h
    rw [h']; simp
theorem ba_eq {a b : ByteArray} (h : a.toList = b.toList) : a = b := by
  rw [ByteArray.toList_eq, ByteArray.toList_eq] at h
  have : a.data = b.data := Array.toList_inj.1 h
  cases a; cases b
  simp only at this
  rw [this]
theorem leB_anti {a b : ByteArray} (h1 : leB a b = true) (h2 : leB b a = true) : a = b := by
  unfold leB at *
  simp only [Bool.not_eq_true'] at *
  exact ba_eq (bl_eq _ _ h2 h1)
theorem leB_iff (a b : ByteArray) : leB a b = true ↔ cmpL a.toList b.toList ≤ 0 := by
  rw [cmpL_le]
  unfold leB
  simp
theorem leB_refl (a : ByteArray) : leB a a = true := by have := leB_total a a; simpa using this
theorem sortB_sorted (l : List ByteArray) : (sortB l).Pairwise (fun a b => leB a b = true) := List.pairwise_mergeSort leB_trans leB_total l
theorem sortB_le (l : List ByteArray) (i j : Nat) (hi : i ≤ j) (hj : j < (sortB l).length) : leB ((sortB l)[i]'(by omega)) (sortB l)[j] = true := by
  rcases Nat.eq_or_lt_of_le hi with h | h
  · subst h; exact leB_refl _
  · exact List.pairwise_iff_getElem.1 (sortB_sorted l) i j (by omega) hj h
theorem sortB_unique {l L : List ByteArray} (hp : L.Perm l) (hs : L.Pairwise (fun a b => leB a b = true)) : sortB l = L :=
  List.Perm.eq_of_pairwise (fun a b _ _ h1 h2 => leB_anti h1 h2) (sortB_sorted l) hs ((sortB_perm l).trans hp.symm)
theorem sortB_mem {l : List ByteArray} {b : ByteArray} : b ∈ sortB l ↔ b ∈ l := (sortB_perm l).mem_iff
/-! ### the bounds of it -/
theorem atB_pos (s : List ByteArray) (n i : Nat) (hs : 0 < s.length) (h : i + 1 < n) : atB s n i = s[(i + 1) * s.length / n]'(at_lt _ _ _ hs h) := by
  unfold atB
  rw [if_neg (by omega), List.getD_eq_getElem?_getD, List.getElem?_eq_getElem (at_lt _ _ _ hs h)]
  rfl
theorem blB_get (s : List ByteArray) (n i : Nat) (h : i < (blB s n).length) : (blB s n)[i] = atB s n i := by simp [blB]
theorem blB_le (l : List ByteArray) (n i j : Nat) (hij : i ≤ j) (hj : j < (blB (sortB l) n).length) : leB ((blB (sortB l) n)[i]'(by omega)) (blB (sortB l) n)[j] = true := by
  have hl := blB_length (sortB l) n
  rw [blB_get, blB_get]
  rcases Nat.eq_zero_or_pos (sortB l).length with h0 | h0
  · unfold atB; rw [if_pos h0, if_pos h0]; exact leB_refl _
  · rw [atB_pos _ _ _ h0 (by omega), atB_pos _ _ _ h0 (by omega)]
    exact sortB_le l _ _ (Nat.div_le_div_right (Nat.mul_le_mul_right _ (by omega))) (at_lt _ _ _ h0 (by omega))
theorem blB_mem (l : List ByteArray) (n i : Nat) (h0 : 0 < l.length) (h : i < (blB (sortB l) n).length) : (blB (sortB l) n)[i] ∈ l := by
  have hl := blB_length (sortB l) n
  have h0' : 0 < (sortB l).length := by rw [sortB_length]; exact h0
  rw [blB_get, atB_pos _ _ _ h0' (by omega)]
  exact sortB_mem.1 (List.getElem_mem _)
theorem blB_split (key : ByteArray) (l : List ByteArray) (n i : Nat) (h : i < (blB (sortB l) n).length) : i < cnt key (blB (sortB l) n) ↔ leB (blB (sortB l) n)[i] key = true := by
  rw [leB_iff]
  refine cnt_split key _ (fun j hj hp => ?_) i h
  exact (leB_iff _ _).1 (leB_trans _ _ _ (blB_le l n j (j + 1) (by omega) hj) ((leB_iff _ _).2 hp))
/-- as many parts as keys, all unlike: a key's part is its place -/
theorem cnt_place (l : List ByteArray) (hd : l.Nodup) (r : Nat) (hr : r < (sortB l).length) : cnt (sortB l)[r] (blB (sortB l) l.length) = r := by
  have hl := blB_length (sortB l) l.length
  have hsl := sortB_length l
  have hd2 : (sortB l).Nodup := (sortB_perm l).nodup_iff.2 hd
  have hne : ∀ i j, (hi : i < j) → (hj : j < (sortB l).length) → (sortB l)[i]'(by omega) ≠ (sortB l)[j] := fun i j hi hj => List.pairwise_iff_getElem.1 (List.nodup_iff_pairwise_ne.1 hd2) i j (by omega) hj hi
  have key : ∀ i, i < (blB (sortB l) l.length).length → (i < cnt (sortB l)[r] (blB (sortB l) l.length) ↔ i < r) := by
    intro i hi
    have h1 : i + 1 < (sortB l).length := by omega
    rw [blB_split _ l _ i hi, blB_get, atB_pos _ _ _ (by omega) (by omega)]
    have e : (i + 1) * (sortB l).length / l.length = i + 1 := by rw [hsl]; exact Nat.mul_div_cancel _ (by omega)
    have e2 : (sortB l)[(i + 1) * (sortB l).length / l.length]'(at_lt _ _ _ (by omega) (by omega)) = (sortB l)[i + 1] := by congr 1
    rw [e2]
    constructor
    · intro h
      rcases Nat.lt_or_ge i r with h2 | h2
      · exact h2
      · exact absurd (leB_anti (sortB_le l r (i + 1) (by omega) h1) h) (hne r (i + 1) (by omega) h1)
    · intro h
      exact sortB_le l (i + 1) r (by omega) hr
  have hc := cnt_le (sortB l)[r] (blB (sortB l) l.length)
  rcases Nat.lt_trichotomy (cnt (sortB l)[r] (blB (sortB l) l.length)) r with h | h | h
  · exact absurd ((key _ (by omega)).2 h) (Nat.lt_irrefl _)
  · exact h
  · have := (key r (by omega)).1 h
    omega
/-! ### three keys parted -/
theorem sort4 : sortB [⟨#[100]⟩, ⟨#[98]⟩, ⟨#[97]⟩, ⟨#[99]⟩] = [⟨#[97]⟩, ⟨#[98]⟩, ⟨#[99]⟩, ⟨#[100]⟩] := by
  apply sortB_unique
  · decide
  · simp only [List.pairwise_cons, leB, ByteArray.toList_eq]
    simp [Op.bytesLess]
end Go.Proofs.Ytbjlfenappnccaa.P

end
section
-- Written by a program of this session (wip/tools/hprint.py, over the kit's printer), not by hand. Lean checks it.
namespace Go.Proofs.Ytbjlfenappnccaa.P
open Go.RowKit Go.Proofs.YtbjlfenappnccaaW.PrintWords Go.Proofs.YtbjlfenappnccaaW.PrintLast Go.Proofs.YtbjlfenappnccaaW.PrintMore
attribute [local go_sem] max2_int min2_int max_two min_two max_three min_three max_four min_four
set_option linter.unusedVariables false
set_option linter.unusedSimpArgs false

/-! ### winnowlaw14_sameTexts: function 16 -/
def winnowlaw14_sameTexts.l0 : Nat → List ByteArray → List ByteArray → Int → Option (Bool)
  | 0, _, _, _ => none
  | k + 1, x0, x1, x5 => if x5 < (x0.length : Int) then (if 0 ≤ x5 then (if x5 < (x1.length : Int) then (if (rdOf ByteArray.empty x0 x5).toList = (rdOf ByteArray.empty x1 x5).toList then (winnowlaw14_sameTexts.l0 k x0 x1 (wrap64 (x5 + 1))) else (some false)) else (none)) else (none)) else (some true)
def winnowlaw14_sameTexts.f (k : Nat) (l0 : List ByteArray) (l1 : List ByteArray) : Option (Bool) := if (l0.length : Int) = (l1.length : Int) then (winnowlaw14_sameTexts.l0 k l0 l1 0) else (some false)
theorem winnowlaw14_sameTexts.mono_l : ∀ k, (∀ y0 y1 y2, LeO (winnowlaw14_sameTexts.l0 k y0 y1 y2) (winnowlaw14_sameTexts.l0 (k + 1) y0 y1 y2))
  | 0 => fun _ _ _ r h => by simp [winnowlaw14_sameTexts.l0] at h
  | k + 1 => by
    have ih0 := winnowlaw14_sameTexts.mono_l k
    · intro y0 y1 y2
      unfold winnowlaw14_sameTexts.l0
      repeat' first
      | (with_reducible exact ih0 _ _ _)
      | (with_reducible exact LeO.refl _)
      | (with_reducible exact LeO.none _)
      | (with_reducible refine LeO.ite ?_ ?_)
      | (with_reducible refine LeO.bind ?_ (fun _ => ?_))
      | exact ih0 _ _ _
      | exact LeO.none _
      | refine LeO.ite ?_ ?_
      | refine LeO.bind ?_ (fun _ => ?_)
theorem winnowlaw14_sameTexts.mono : ∀ a0 a1 k, LeO (winnowlaw14_sameTexts.f k a0 a1) (winnowlaw14_sameTexts.f (k + 1) a0 a1) := by
  intro a0 a1 k
  have ih0 := winnowlaw14_sameTexts.mono_l k
  unfold winnowlaw14_sameTexts.f
  repeat' first
      | (with_reducible exact ih0 _ _ _)
      | (with_reducible exact LeO.refl _)
      | (with_reducible exact LeO.none _)
      | (with_reducible refine LeO.ite ?_ ?_)
      | (with_reducible refine LeO.bind ?_ (fun _ => ?_))
      | exact ih0 _ _ _
      | exact LeO.none _
      | refine LeO.ite ?_ ?_
      | refine LeO.bind ?_ (fun _ => ?_)
set_option maxHeartbeats 8000000 in
set_option maxRecDepth 100000 in
theorem winnowlaw14_sameTexts.calls (k : Nat) (A0 : Option Addr) (c0 : Nat) (l0 : List ByteArray) (A1 : Option Addr) (c1 : Nat) (l1 : List ByteArray) (r : Bool) (w : World) (hr0 : Kd.C Kd.string w A0 l0.length l0) (hc0 : l0.length ≤ c0) (hr1 : Kd.C Kd.string w A1 l1.length l1) (hc1 : l1.length ≤ c1) (h : winnowlaw14_sameTexts.f k l0 l1 = some r) :
    Calls Try.prog 16 #[.slice A0 l0.length c0, .slice A1 l1.length c1] w fun e w' => e = .returned (.bool r) ∧ Drawn0 w w' := by
  have HR0 := Aside0.mk hr0
  have HC0 := Aside0.mk hc0
  clear hr0 hc0
  have HR1 := Aside0.mk hr1
  have HC1 := Aside0.mk hc1
  clear hr1 hc1
  have H : (if (l0.length : Int) = (l1.length : Int) then (winnowlaw14_sameTexts.l0 k l0 l1 0) else (some false)) = some r := h
  clear h
  by_cases c3 : (l0.length : Int) = (l1.length : Int)
  · rw [if_pos c3] at H
    have c3b0 : ((l0.length : Int) == (l1.length : Int)) = true := beq_iff_eq.mpr c3
    have c3b1 : ((l0.length : Int) != (l1.length : Int)) = false := bne_eq_false_iff_eq.mpr c3
    have c3b2 : (l0.length == l1.length) = true := by first | simpa using c3 | (simp at c3 ⊢; omega)
    clear c3
    have H' := Aside0.mk H
    clear H
    go_enter Try.func16, Try.ntmps16
    go_wp2
    repeat (go_quiet (fail); try go_wp2)
    go_loopg [5] k (fun kq v5 w' => ∃ (x5_1 : Int), v5 = .int .i64 x5_1 ∧ Aside0 (winnowlaw14_sameTexts.l0 kq l0 l1 x5_1 = some r) ∧ Aside0 (kq ≤ k) ∧ Drawn0 w w')
    case atStart => exact ⟨(0), (by first | rfl | (simp; done) | (simp [*]; done)), H', ⟨Nat.le_refl _⟩, by repeat (first | exact Drawn0.refl _ | apply Drawn0.step)⟩
    case round =>
      clear H'
      try clear c1
      try clear p2
      try clear c3
      try clear c3b0
      try clear c3b1
      try clear c3b2
      obtain ⟨x5_1, rfl, HA, HK1, ⟨m1, rfl⟩⟩ := hrel
      cases gk with
      | zero => exact absurd HA.out (by simp [winnowlaw14_sameTexts.l0])
      | succ k1 =>
        have H := HA.out
        clear HA
        simp only [winnowlaw14_sameTexts.l0] at H
        by_cases c4 : x5_1 < (l0.length : Int)
        · rw [if_pos c4] at H
          have c4b0 : decide (x5_1 < (l0.length : Int)) = true := decide_eq_true c4
          clear c4
          by_cases c5 : 0 ≤ x5_1
          · rw [if_pos c5] at H
            have c5b0 : decide (0 ≤ x5_1) = true := decide_eq_true c5
            clear c5
            by_cases c6 : x5_1 < (l1.length : Int)
            · rw [if_pos c6] at H
              have c6b0 : decide (x5_1 < (l1.length : Int)) = true := decide_eq_true c6
              clear c6
              by_cases c7 : (rdOf ByteArray.empty l0 x5_1).toList = (rdOf ByteArray.empty l1 x5_1).toList
              · rw [if_pos c7] at H
                have c7b0 : ((rdOf ByteArray.empty l0 x5_1).toList == (rdOf ByteArray.empty l1 x5_1).toList) = true := beq_iff_eq.mpr c7
                have c7b1 : ((rdOf ByteArray.empty l0 x5_1).toList != (rdOf ByteArray.empty l1 x5_1).toList) = false := bne_eq_false_iff_eq.mpr c7
                clear c7
                have H' := Aside0.mk H
                clear H
                have p150 : 0 ≤ (x5_1 : Int) := of_decide_eq_true (by first | (with_reducible assumption) | assumption)
                have q150 : x5_1 < (l0.length : Int) := of_decide_eq_true (by first | (with_reducible assumption) | assumption)
                obtain ⟨ad150, e150, hx150_0⟩ := Kd.at_string HR0.out x5_1 p150 q150
                cases e150
                replace p150 := eq_true p150
                replace q150 := eq_true q150
                have p151 : 0 ≤ (x5_1 : Int) := of_decide_eq_true (by first | (with_reducible assumption) | assumption)
                have q151 : x5_1 < (l1.length : Int) := of_decide_eq_true (by first | (with_reducible assumption) | assumption)
                obtain ⟨ad151, e151, hx151_0⟩ := Kd.at_string HR1.out x5_1 p151 q151
                cases e151
                replace p151 := eq_true p151
                replace q151 := eq_true q151
                go_wp2
                repeat (go_quiet (fail); try go_wp2)
                go_roundg k1
                case measure => have := HK1.out; omega
                case rel => exact ⟨(wrap64 (x5_1 + 1)), (by first | rfl | (simp; done) | (simp [*]; done)), H', ⟨by have := HK1.out; omega⟩, by repeat (first | exact Drawn0.refl _ | apply Drawn0.step)⟩
              · rw [if_neg c7] at H
                have c7b0 : ((rdOf ByteArray.empty l0 x5_1).toList == (rdOf ByteArray.empty l1 x5_1).toList) = false := beq_eq_false_iff_ne.mpr c7
                have c7b1 : ((rdOf ByteArray.empty l0 x5_1).toList != (rdOf ByteArray.empty l1 x5_1).toList) = true := bne_iff_ne.mpr c7
                obtain rfl := Option.some.inj H
                have p150 : 0 ≤ (x5_1 : Int) := of_decide_eq_true (by first | (with_reducible assumption) | assumption)
                have q150 : x5_1 < (l0.length : Int) := of_decide_eq_true (by first | (with_reducible assumption) | assumption)
                obtain ⟨ad150, e150, hx150_0⟩ := Kd.at_string HR0.out x5_1 p150 q150
                cases e150
                replace p150 := eq_true p150
                replace q150 := eq_true q150
                have p151 : 0 ≤ (x5_1 : Int) := of_decide_eq_true (by first | (with_reducible assumption) | assumption)
                have q151 : x5_1 < (l1.length : Int) := of_decide_eq_true (by first | (with_reducible assumption) | assumption)
                obtain ⟨ad151, e151, hx151_0⟩ := Kd.at_string HR1.out x5_1 p151 q151
                cases e151
                replace p151 := eq_true p151
                replace q151 := eq_true q151
                go_wp2
                repeat (go_quiet (fail); try go_wp2)
                go_ret
                exact ⟨by first | rfl | (simp; done) | (simp [*]; done), by repeat (first | exact Drawn0.refl _ | apply Drawn0.step)⟩
            · rw [if_neg c6] at H
              exact absurd H (by simp)
          · rw [if_neg c5] at H
            exact absurd H (by simp)
        · rw [if_neg c4] at H
          have c4b0 : decide (x5_1 < (l0.length : Int)) = false := decide_eq_false c4
          clear c4
          obtain rfl := Option.some.inj H
          go_wp2
          repeat (go_quiet (fail); try go_wp2)
          go_ret
          exact ⟨by first | rfl | (simp; done) | (simp [*]; done), by repeat (first | exact Drawn0.refl _ | apply Drawn0.step)⟩
  · rw [if_neg c3] at H
    have c3b0 : ((l0.length : Int) == (l1.length : Int)) = false := beq_eq_false_iff_ne.mpr c3
    have c3b1 : ((l0.length : Int) != (l1.length : Int)) = true := bne_iff_ne.mpr c3
    have c3b2 : (l0.length == l1.length) = false := by first | simpa using c3 | (simp at c3 ⊢; omega)
    obtain rfl := Option.some.inj H
    go_enter Try.func16, Try.ntmps16
    go_wp2
    repeat (go_quiet (fail); try go_wp2)
    go_ret
    exact ⟨by first | rfl | (simp; done) | (simp [*]; done), by repeat (first | exact Drawn0.refl _ | apply Drawn0.step)⟩

end Go.Proofs.Ytbjlfenappnccaa.P

end
section
-- Written by a program of this session (wip/tools/hprint.py, over the kit's printer), not by hand. Lean checks it.
namespace Go.Proofs.Ytbjlfenappnccaa.P
open Go.RowKit Go.Proofs.YtbjlfenappnccaaW.PrintWords Go.Proofs.YtbjlfenappnccaaW.PrintLast Go.Proofs.YtbjlfenappnccaaW.PrintMore
attribute [local go_sem] max2_int min2_int max_two min_two max_three min_three max_four min_four
set_option linter.unusedVariables false
set_option linter.unusedSimpArgs false

/-! ### winnowlaw14_turned: function 13 -/
def winnowlaw14_turned.l0 : Nat → List ByteArray → Int → Option (List ByteArray × List ByteArray)
  | 0, _, _ => none
  | k + 1, x0, x3 => if x3 < (wrap64 ((x0.length : Int) / 2)) then (if 0 ≤ x3 then (if x3 < (x0.length : Int) then (if 0 ≤ (wrap64 ((wrap64 ((x0.length : Int) - 1)) - x3)) then (if (wrap64 ((wrap64 ((x0.length : Int) - 1)) - x3)) < (x0.length : Int) then (winnowlaw14_turned.l0 k ((x0.set (x3 : Int).toNat (rdOf ByteArray.empty x0 (wrap64 ((wrap64 ((x0.length : Int) - 1)) - x3)))).set ((wrap64 ((wrap64 ((x0.length : Int) - 1)) - x3)) : Int).toNat (rdOf ByteArray.empty x0 x3)) (wrap64 (x3 + 1))) else (none)) else (none)) else (none)) else (none)) else (if (x0.length : Int) > 0 then (if 0 ≤ (wrap64 ((x0.length : Int) - 1)) then (if (wrap64 ((x0.length : Int) - 1)) < (x0.length : Int) then (if (rdOf ByteArray.empty x0 (wrap64 ((x0.length : Int) - 1))).size + 1 ≤ 9223372036854775807 then ((some (x0.set ((wrap64 ((x0.length : Int) - 1)) : Int).toNat ((rdOf ByteArray.empty x0 (wrap64 ((x0.length : Int) - 1))) ++ (⟨#[122]⟩ : ByteArray)) : List ByteArray)).bind fun y160 => ((some (([] : List ByteArray) : List ByteArray)).bind fun y161 => (if y161.length + y160.length < 8796093022208 then (some ((y161 ++ y160), y160)) else (none)))) else (none)) else (none)) else (none)) else ((some (([] : List ByteArray) : List ByteArray)).bind fun y167 => (if y167.length + x0.length < 8796093022208 then (some ((y167 ++ x0), x0)) else (none))))
def winnowlaw14_turned.f (k : Nat) (l0 : List ByteArray) : Option (List ByteArray × List ByteArray) := winnowlaw14_turned.l0 k l0 0
theorem winnowlaw14_turned.mono_l : ∀ k, (∀ y0 y1, LeO (winnowlaw14_turned.l0 k y0 y1) (winnowlaw14_turned.l0 (k + 1) y0 y1))
  | 0 => fun _ _ r h => by simp [winnowlaw14_turned.l0] at h
  | k + 1 => by
    have ih0 := winnowlaw14_turned.mono_l k
    · intro y0 y1
      unfold winnowlaw14_turned.l0
      repeat' first
      | (with_reducible exact ih0 _ _)
      | (with_reducible exact LeO.refl _)
      | (with_reducible exact LeO.none _)
      | (with_reducible refine LeO.ite ?_ ?_)
      | (with_reducible refine LeO.bind ?_ (fun _ => ?_))
      | exact ih0 _ _
      | exact LeO.none _
      | refine LeO.ite ?_ ?_
      | refine LeO.bind ?_ (fun _ => ?_)
theorem winnowlaw14_turned.mono : ∀ a0 k, LeO (winnowlaw14_turned.f k a0) (winnowlaw14_turned.f (k + 1) a0) := by
  intro a0 k
  have ih0 := winnowlaw14_turned.mono_l k
  unfold winnowlaw14_turned.f
  repeat' first
      | (with_reducible exact ih0 _ _)
      | (with_reducible exact LeO.refl _)
      | (with_reducible exact LeO.none _)
      | (with_reducible refine LeO.ite ?_ ?_)
      | (with_reducible refine LeO.bind ?_ (fun _ => ?_))
      | exact ih0 _ _
      | exact LeO.none _
      | refine LeO.ite ?_ ?_
      | refine LeO.bind ?_ (fun _ => ?_)
set_option maxHeartbeats 8000000 in
set_option maxRecDepth 100000 in
theorem winnowlaw14_turned.calls (k : Nat) (P0_ : Nat → Prop) (u9000_ : Value) (l0 : List ByteArray) (r1 : List ByteArray) (r2 : List ByteArray) (w0 w : World) (hB : Below w0.heap.size w0 w) (ho0 : Kd.R Kd.string 9 w w0.heap.size P0_ u9000_ l0) (h : winnowlaw14_turned.f k l0 = some (r1, r2)) :
    Calls Try.prog 13 #[u9000_] w fun e w' => ∃ v0_ : Value, e = .returned (v0_) ∧ Kd.R Kd.string 9 w' w0.heap.size (fun k_ => (P0_ k_ ∨ w.heap.size ≤ k_) ∧ some k_ ≠ (u9000_ : Value).ownBlock) v0_ r1 ∧ Kd.R Kd.string 9 w' w0.heap.size (fun k_ => (P0_ k_ ∨ w.heap.size ≤ k_)) u9000_ r2 ∧ Below w0.heap.size w0 w' ∧ Kept w w' (fun k_ => P0_ k_) := by
  have HO0 := Aside0.mk (show Kd.R Kd.string 9 w w0.heap.size (fun k_ => (P0_ k_ ∨ w.heap.size ≤ k_)) u9000_ l0 from Kd.R_mono ho0 (fun k_ hk => (.inl hk)))
  have HK := Aside0.mk (Kept.refl w (fun k_ => P0_ k_))
  have HW0 := Aside0.mk hB.size
  have HB := Aside0.mk hB
  clear hB
  have H : (winnowlaw14_turned.l0 k l0 0) = some (r1, r2) := h
  clear h
  have H' := Aside0.mk H
  clear H
  go_enter Try.func13, Try.ntmps13
  go_wp2
  go_loopg [3] k (fun kq v3 w' => ∃ (x0_1 : List ByteArray) (x3_1 : Int), v3 = .int .i64 x3_1 ∧ Aside0 (winnowlaw14_turned.l0 kq x0_1 x3_1 = some (r1, r2)) ∧ Aside0 (kq ≤ k) ∧ Aside0 (Kd.R Kd.string 9 w' w0.heap.size (fun k_ => (P0_ k_ ∨ w.heap.size ≤ k_)) u9000_ x0_1) ∧ Aside0 (Kept w w' (fun k_ => P0_ k_)) ∧ Aside0 (Below w0.heap.size w0 w'))
  case atStart => exact ⟨(l0), (0), (by first | rfl | (simp; done) | (simp [*]; done)), H', ⟨Nat.le_refl _⟩, ⟨by (with_reducible repeat (first | apply Kd.R_alloc | apply Kd.R_drewN | apply Kd.R_drew)); exact HO0.out⟩, ⟨by repeat (first | (with_reducible first | exact HK.out | apply Kept.alloc | apply Kept.drewN | apply Kept.drew) | exact HK.out)⟩, ⟨by repeat (first | (with_reducible first | exact HB.out | apply below_alloc | apply pw_below_drewN | apply below_drew1) | exact HB.out)⟩⟩
  case round =>
    clear H'
    try clear c1
    obtain ⟨x0_1, x3_1, rfl, HA, HK1, HO_0, HK, HB⟩ := hrel
    cases gk with
    | zero => exact absurd HA.out (by simp [winnowlaw14_turned.l0])
    | succ k1 =>
      have H := HA.out
      clear HA
      simp only [winnowlaw14_turned.l0] at H
      by_cases c2 : x3_1 < (wrap64 ((x0_1.length : Int) / 2))
      · rw [if_pos c2] at H
        have c2b0 : decide (x3_1 < (wrap64 ((x0_1.length : Int) / 2))) = true := decide_eq_true c2
        clear c2
        by_cases c3 : 0 ≤ x3_1
        · rw [if_pos c3] at H
          have c3b0 : decide (0 ≤ x3_1) = true := decide_eq_true c3
          clear c3
          by_cases c4 : x3_1 < (x0_1.length : Int)
          · rw [if_pos c4] at H
            have c4b0 : decide (x3_1 < (x0_1.length : Int)) = true := decide_eq_true c4
            clear c4
            obtain ⟨ji5, hji5⟩ : ∃ j_ : Int, (wrap64 ((wrap64 ((x0_1.length : Int) - 1)) - x3_1)) = j_ := ⟨_, rfl⟩
            replace H : (if 0 ≤ (ji5) then (if (ji5) < (x0_1.length : Int) then (winnowlaw14_turned.l0 k1 ((x0_1.set (x3_1 : Int).toNat (rdOf ByteArray.empty x0_1 (ji5))).set ((ji5) : Int).toNat (rdOf ByteArray.empty x0_1 x3_1)) (wrap64 (x3_1 + 1))) else (none)) else (none)) = some (r1, r2) := by first | (rw [hji5] at H; exact H) | (simp only [hji5] at H ⊢; exact H)
            have hji5w : (IntKind.i64.wrap ((wrap64 ((x0_1.length : Int) - 1)) - x3_1)) = ji5 := (i64_w _).trans hji5
            by_cases c6 : 0 ≤ (ji5)
            · rw [if_pos c6] at H
              have c6b0 : decide (0 ≤ (ji5)) = true := decide_eq_true c6
              clear c6
              by_cases c7 : (ji5) < (x0_1.length : Int)
              · rw [if_pos c7] at H
                have c7b0 : decide ((ji5) < (x0_1.length : Int)) = true := decide_eq_true c7
                clear c7
                obtain ⟨y157, hy157⟩ : ∃ y_ : List ByteArray, y_ = (x0_1.set (x3_1 : Int).toNat (rdOf ByteArray.empty x0_1 (ji5))) := ⟨_, rfl⟩
                replace H : (winnowlaw14_turned.l0 k1 (y157.set ((ji5) : Int).toNat (rdOf ByteArray.empty x0_1 x3_1)) (wrap64 (x3_1 + 1))) = some (r1, r2) := by first | (rw [hy157]; with_reducible exact H) | (have H2_ := (Option.bind_some _ _).symm.trans H; rw [hy157]; with_reducible exact H2_) | (have H2_ := (Option.bind_some _ _).symm.trans H; with_reducible exact H2_) | with_reducible exact H | (rw [hy157]; exact H) | exact H
                have Ny157 := Aside0.mk hy157
                clear hy157
                obtain ⟨y158, hy158⟩ : ∃ y_ : List ByteArray, y_ = (y157.set ((ji5) : Int).toNat (rdOf ByteArray.empty x0_1 x3_1)) := ⟨_, rfl⟩
                replace H : (winnowlaw14_turned.l0 k1 y158 (wrap64 (x3_1 + 1))) = some (r1, r2) := by first | (rw [hy158]; with_reducible exact H) | (have H2_ := (Option.bind_some _ _).symm.trans H; rw [hy158]; with_reducible exact H2_) | (have H2_ := (Option.bind_some _ _).symm.trans H; with_reducible exact H2_) | with_reducible exact H | (rw [hy158]; exact H) | exact H
                have Ny158 := Aside0.mk hy158
                clear hy158
                have H' := Aside0.mk H
                clear H
                obtain ⟨Ao10, co10, eo10⟩ := Kd.R_slice HO_0.out
                subst eo10
                have p155 : 0 ≤ (x3_1 : Int) := of_decide_eq_true (by first | (with_reducible assumption) | assumption)
                have q155 : x3_1 < (x0_1.length : Int) := of_decide_eq_true (by first | (with_reducible assumption) | assumption)
                obtain ⟨ad155, e155, hx155_0⟩ := Kd.at_string (Kd.R_reads' HO_0.out).2.2 x3_1 p155 q155
                cases e155
                replace p155 := eq_true p155
                replace q155 := eq_true q155
                have p156 : 0 ≤ ((ji5) : Int) := of_decide_eq_true (by first | (with_reducible assumption) | assumption)
                have q156 : (ji5) < (x0_1.length : Int) := of_decide_eq_true (by first | (with_reducible assumption) | assumption)
                obtain ⟨ad156, e156, hx156_0⟩ := Kd.at_string (Kd.R_reads' HO_0.out).2.2 (ji5) p156 q156
                obtain rfl : ad155 = ad156 := (by injection e156)
                replace p156 := eq_true p156
                replace q156 := eq_true q156
                have p8 : 0 ≤ (x3_1 : Int) := of_decide_eq_true (by first | (with_reducible assumption) | assumption)
                have q8 : (x3_1 : Int) < ((x0_1.length : Int) : Int) := of_decide_eq_true (by first | (with_reducible assumption) | assumption)
                obtain ⟨go8, co8, eo8, gb8, gl8, cl8, HG8⟩ := Kd.R_form HO_0.out (by omega)
                (first | cases eo8 | (injection eo8 with ea_ en_ ec_; (first | subst ea_ | (injection ea_ with ea_; subst ea_)); subst ec_; clear en_))
                have GB8 := Aside0.mk gb8
                have GG8 := Aside0.mk HG8
                clear gb8 gl8 HG8
                have HMgo8 := Aside0.mk (show (P0_ go8 ∨ w.heap.size ≤ go8) from (HO_0.out.1 _ rfl))
                (first | simp only [add_plain] at hx155_0 | skip)
                (first | simp only [add_plain] at hx156_0 | skip)
                obtain ⟨hx8_0, hf8_0⟩ := Kd.R_celln (⟨#[]⟩ : ByteArray) HO_0.out (x3_1 : Int) p8 q8
                replace p8 := eq_true p8
                replace q8 := eq_true q8
                have HP11 := Kd.R_putg HO_0.out (x3_1 : Int) (rdOf ByteArray.empty x0_1 (ji5))
                go_wp2_with (first | ((with_reducible refine gate_store (t := 9) (p := 26) rfl ?_); refine store_event (t := 9) (p := 26) (v := ?vo_w12) (w1 := (wr.setCell ⟨go8, (x3_1 : Int).toNat, none⟩ (.string (rdOf ByteArray.empty x0_1 (ji5))))) ?hg ?ho ?hn ?hr ?_; (case ho => rfl); (case hg => rfl); (case hn => rfl); (case hr => first | (go_simp; done) | (go_simp; rfl)); intro w12 hw; have hg : wr.grownBy w12 (some go8) := (by rw [hw]; exact HP11.2); have hp_ : Kd.R Kd.string 9 w12 w0.heap.size (fun k_ => (P0_ k_ ∨ w.heap.size ≤ k_)) (.slice (some ⟨go8, 0, none⟩) x0_1.length co10) y157 := (by rw [hw, Ny157.out]; exact HP11.1); clear HP11; have n0_ := Aside0.mk (hp_); have n1_ := Aside0.mk ((by rw [hw]; exact below_set (HB.out) GB8.out : Below w0.heap.size w0 w12)); have n2_ := Aside0.mk (Kept.of_grown (S := (fun k_ => P0_ k_)) hg (by repeat (first | (with_reducible first | exact HK.out | apply Kept.alloc | apply Kept.drewN | apply Kept.drew) | exact HK.out)) (fun k_ e_ => (HO_0.out.1 k_ e_))); clear HO_0; clear HB; clear HK; have HO_0 := n0_; have HB := n1_; have HK := n2_; clear n0_ n1_ n2_; clear hg hw hp_; have p9 : 0 ≤ ((ji5) : Int) := of_decide_eq_true (by first | (with_reducible assumption) | assumption); have q9 : ((ji5) : Int) < ((x0_1.length : Int) : Int) := of_decide_eq_true (by first | (with_reducible assumption) | assumption); obtain ⟨hx9_0, hf9_0⟩ := Kd.R_celln (⟨#[]⟩ : ByteArray) HO_0.out ((ji5) : Int) p9 q9; replace p9 := eq_true p9; replace q9 := eq_true q9; obtain ⟨hy13_, hz13_⟩ := Kd.R_celln (⟨#[]⟩ : ByteArray) HO_0.out ((ji5) : Int) (of_decide_eq_true (by first | (with_reducible assumption) | assumption)) (of_decide_eq_true (by first | (with_reducible assumption) | assumption)); have HP13 := Kd.R_putg HO_0.out ((ji5) : Int) (rdOf ByteArray.empty x0_1 x3_1)) | ((with_reducible refine gate_store (t := 9) (p := 34) rfl ?_); refine store_event (t := 9) (p := 34) (v := ?vo_w14) (w1 := (w12.setCell ⟨go8, ((ji5) : Int).toNat, none⟩ (.string (rdOf ByteArray.empty x0_1 x3_1)))) ?hg ?ho ?hn ?hr ?_; (case ho => rfl); (case hg => rfl); (case hn => rfl); (case hr => first | (go_simp; done) | (go_simp; rfl)); intro w14 hw; have hg : w12.grownBy w14 (some go8) := (by rw [hw]; exact HP13.2); have hp_ : Kd.R Kd.string 9 w14 w0.heap.size (fun k_ => (P0_ k_ ∨ w.heap.size ≤ k_)) (.slice (some ⟨go8, 0, none⟩) x0_1.length co10) y158 := (by rw [hw, Ny158.out]; exact HP13.1); clear HP13; have n0_ := Aside0.mk (hp_); have n1_ := Aside0.mk ((by rw [hw]; exact below_set (HB.out) GB8.out : Below w0.heap.size w0 w14)); have n2_ := Aside0.mk (Kept.of_grown (S := (fun k_ => P0_ k_)) hg (by repeat (first | (with_reducible first | exact HK.out | apply Kept.alloc | apply Kept.drewN | apply Kept.drew) | exact HK.out)) (fun k_ e_ => (HO_0.out.1 k_ e_))); clear HO_0; clear HB; clear HK; have HO_0 := n0_; have HB := n1_; have HK := n2_; clear n0_ n1_ n2_; clear hg hw hp_))
                go_roundg k1
                case measure => have := HK1.out; omega
                case rel => exact ⟨(y158), (wrap64 (x3_1 + 1)), (by first | rfl | (simp; done) | (simp [*]; done)), H', ⟨by have := HK1.out; omega⟩, ⟨by (with_reducible repeat (first | apply Kd.R_alloc | apply Kd.R_drewN | apply Kd.R_drew)); exact HO_0.out⟩, ⟨by repeat (first | (with_reducible first | exact HK.out | apply Kept.alloc | apply Kept.drewN | apply Kept.drew) | exact HK.out)⟩, ⟨by repeat (first | (with_reducible first | exact HB.out | apply below_alloc | apply pw_below_drewN | apply below_drew1) | exact HB.out)⟩⟩
              · rw [if_neg c7] at H
                exact absurd H (by simp)
            · rw [if_neg c6] at H
              exact absurd H (by simp)
          · rw [if_neg c4] at H
            exact absurd H (by simp)
        · rw [if_neg c3] at H
          exact absurd H (by simp)
      · rw [if_neg c2] at H
        have c2b0 : decide (x3_1 < (wrap64 ((x0_1.length : Int) / 2))) = false := decide_eq_false c2
        clear c2
        by_cases c15 : (x0_1.length : Int) > 0
        · rw [if_pos c15] at H
          have c15b0 : decide (0 < (x0_1.length : Int)) = true := decide_eq_true c15
          have c15b1 : decide (0 < x0_1.length) = true := decide_eq_true (by omega)
          clear c15
          obtain ⟨ji16, hji16⟩ : ∃ j_ : Int, (wrap64 ((x0_1.length : Int) - 1)) = j_ := ⟨_, rfl⟩
          replace H : (if 0 ≤ (ji16) then (if (ji16) < (x0_1.length : Int) then (if (rdOf ByteArray.empty x0_1 (ji16)).size + 1 ≤ 9223372036854775807 then ((some (x0_1.set ((ji16) : Int).toNat ((rdOf ByteArray.empty x0_1 (ji16)) ++ (⟨#[122]⟩ : ByteArray)) : List ByteArray)).bind fun y160 => ((some (([] : List ByteArray) : List ByteArray)).bind fun y161 => (if y161.length + y160.length < 8796093022208 then (some ((y161 ++ y160), y160)) else (none)))) else (none)) else (none)) else (none)) = some (r1, r2) := by first | (rw [hji16] at H; exact H) | (simp only [hji16] at H ⊢; exact H)
          have hji16w : (IntKind.i64.wrap ((x0_1.length : Int) - 1)) = ji16 := (i64_w _).trans hji16
          by_cases c17 : 0 ≤ (ji16)
          · rw [if_pos c17] at H
            have c17b0 : decide (0 ≤ (ji16)) = true := decide_eq_true c17
            clear c17
            by_cases c18 : (ji16) < (x0_1.length : Int)
            · rw [if_pos c18] at H
              have c18b0 : decide ((ji16) < (x0_1.length : Int)) = true := decide_eq_true c18
              clear c18
              by_cases c19 : (rdOf ByteArray.empty x0_1 (ji16)).size + 1 ≤ 9223372036854775807
              · rw [if_pos c19] at H
                have c19b0 := eq_true c19
                have c19b1 : decide ((rdOf ByteArray.empty x0_1 (ji16)).size + 1 ≤ 9223372036854775807) = true := decide_eq_true c19
                try have c19b2 : (9223372036854775807 < (rdOf ByteArray.empty x0_1 (ji16)).size + 1) = False := eq_false (Nat.not_lt.2 c19)
                obtain ⟨y160, hy160⟩ : ∃ y_ : List ByteArray, y_ = (x0_1.set ((ji16) : Int).toNat ((rdOf ByteArray.empty x0_1 (ji16)) ++ (⟨#[122]⟩ : ByteArray))) := ⟨_, rfl⟩
                replace H : ((some (([] : List ByteArray) : List ByteArray)).bind fun y161 => (if y161.length + y160.length < 8796093022208 then (some ((y161 ++ y160), y160)) else (none))) = some (r1, r2) := by first | (rw [hy160]; with_reducible exact H) | (have H2_ := (Option.bind_some _ _).symm.trans H; rw [hy160]; with_reducible exact H2_) | (have H2_ := (Option.bind_some _ _).symm.trans H; with_reducible exact H2_) | with_reducible exact H | (rw [hy160]; exact H) | exact H
                have Ny160 := Aside0.mk hy160
                clear hy160
                obtain ⟨y161, hy161⟩ : ∃ y_ : List ByteArray, y_ = (([] : List ByteArray)) := ⟨_, rfl⟩
                replace H : (if y161.length + y160.length < 8796093022208 then (some ((y161 ++ y160), y160)) else (none)) = some (r1, r2) := by first | (rw [hy161]; with_reducible exact H) | (have H2_ := (Option.bind_some _ _).symm.trans H; rw [hy161]; with_reducible exact H2_) | (have H2_ := (Option.bind_some _ _).symm.trans H; with_reducible exact H2_) | with_reducible exact H | (rw [hy161]; exact H) | exact H
                have Ny161 := Aside0.mk hy161
                clear hy161
                by_cases c21 : y161.length + y160.length < 8796093022208
                · rw [if_pos c21] at H
                  have LMc21 := Aside0.mk c21
                  clear c21
                  obtain ⟨y164, hy164⟩ : ∃ y_ : List ByteArray, y_ = (y161 ++ y160) := ⟨_, rfl⟩
                  replace H : (some (y164, y160)) = some (r1, r2) := by first | (rw [hy164]; with_reducible exact H) | (have H2_ := (Option.bind_some _ _).symm.trans H; rw [hy164]; with_reducible exact H2_) | (have H2_ := (Option.bind_some _ _).symm.trans H; with_reducible exact H2_) | with_reducible exact H | (rw [hy164]; exact H) | exact H
                  have Ny164 := Aside0.mk hy164
                  clear hy164
                  simp only [Option.some.injEq, Prod.mk.injEq] at H
                  obtain ⟨rfl, rfl⟩ := H
                  obtain ⟨Ao22, co22, eo22⟩ := Kd.R_slice HO_0.out
                  subst eo22
                  have p159 : 0 ≤ ((ji16) : Int) := of_decide_eq_true (by first | (with_reducible assumption) | assumption)
                  have q159 : (ji16) < (x0_1.length : Int) := of_decide_eq_true (by first | (with_reducible assumption) | assumption)
                  obtain ⟨ad159, e159, hx159_0⟩ := Kd.at_string (Kd.R_reads' HO_0.out).2.2 (ji16) p159 q159
                  cases e159
                  replace p159 := eq_true p159
                  replace q159 := eq_true q159
                  have p20 : 0 ≤ ((ji16) : Int) := of_decide_eq_true (by first | (with_reducible assumption) | assumption)
                  have q20 : ((ji16) : Int) < ((x0_1.length : Int) : Int) := of_decide_eq_true (by first | (with_reducible assumption) | assumption)
                  obtain ⟨go20, co20, eo20, gb20, gl20, cl20, HG20⟩ := Kd.R_form HO_0.out (by omega)
                  (first | cases eo20 | (injection eo20 with ea_ en_ ec_; (first | subst ea_ | (injection ea_ with ea_; subst ea_)); subst ec_; clear en_))
                  have GB20 := Aside0.mk gb20
                  have GG20 := Aside0.mk HG20
                  clear gb20 gl20 HG20
                  have HMgo20 := Aside0.mk (show (P0_ go20 ∨ w.heap.size ≤ go20) from (HO_0.out.1 _ rfl))
                  (first | simp only [add_plain] at hx159_0 | skip)
                  obtain ⟨hx20_0, hf20_0⟩ := Kd.R_celln (⟨#[]⟩ : ByteArray) HO_0.out ((ji16) : Int) p20 q20
                  replace p20 := eq_true p20
                  replace q20 := eq_true q20
                  have HP23 := Kd.R_putg HO_0.out ((ji16) : Int) ((rdOf ByteArray.empty x0_1 (ji16)) ++ (⟨#[122]⟩ : ByteArray))
                  go_wp2_with (first | ((with_reducible refine gate_store (t := 9) (p := 49) rfl ?_); refine store_event (t := 9) (p := 49) (v := ?vo_w24) (w1 := (wr.setCell ⟨go20, ((ji16) : Int).toNat, none⟩ (.string ((rdOf ByteArray.empty x0_1 (ji16)) ++ (⟨#[122]⟩ : ByteArray))))) ?hg ?ho ?hn ?hr ?_; (case ho => rfl); (case hg => rfl); (case hn => rfl); (case hr => first | (go_simp; done) | (go_simp; rfl)); intro w24 hw; have hg : wr.grownBy w24 (some go20) := (by rw [hw]; exact HP23.2); have hp_ : Kd.R Kd.string 9 w24 w0.heap.size (fun k_ => (P0_ k_ ∨ w.heap.size ≤ k_)) (.slice (some ⟨go20, 0, none⟩) x0_1.length co22) y160 := (by rw [hw, Ny160.out]; exact HP23.1); clear HP23; have n0_ := Aside0.mk (hp_); have n1_ := Aside0.mk ((by rw [hw]; exact below_set (HB.out) GB20.out : Below w0.heap.size w0 w24)); have n2_ := Aside0.mk (Kept.of_grown (S := (fun k_ => P0_ k_)) hg (by repeat (first | (with_reducible first | exact HK.out | apply Kept.alloc | apply Kept.drewN | apply Kept.drew) | exact HK.out)) (fun k_ e_ => (HO_0.out.1 k_ e_))); clear HO_0; clear HB; clear HK; have HO_0 := n0_; have HB := n1_; have HK := n2_; clear n0_ n1_ n2_; clear hg hw hp_) | ((with_reducible refine gate_dst (N := 50) rfl ?_); refine Kd.R_lit Kd.string _ 9 ?hg (N := 50) ?hd (xs := ([] : List ByteArray)) (inner := []) (ok := fun _ => True) (okp := fun _ => True) ?hr ?hp (fun _ hk => hk) trivial (Below.refl _ _) (Nat.le_refl _) (by simp) ?_; (case hd => rfl); (case hg => rfl); (case hr => first | (go_simp; done) | (go_simp; rfl)); (case hp => exact (Reps.none _ _)); intro v162 w25 ho26 hb hg_ hnew_; clear hg_ hnew_; (first | rw [← Ny161.out] at ho26 | (simp only [Int.reduceToNat] at ho26; rw [← Ny161.out] at ho26)); have n0_ := Aside0.mk (Kd.R_elder' (by (with_reducible repeat (first | apply Kd.R_alloc | apply Kd.R_drewN | apply Kd.R_drew)); exact HO_0.out) (Kd.R_base ho26) hb); have n1_ := Aside0.mk (Kd.R_lower (Kd.R_new' (Kd.R_newM (M := fun k_ => (P0_ k_ ∨ w.heap.size ≤ k_)) ho26 (by first | exact HK.out.1 | exact (show Kept w _ (fun k_ => P0_ k_) from by repeat (first | (with_reducible first | exact HK.out | apply Kept.alloc | apply Kept.drewN | apply Kept.drew) | exact HK.out)).1) (fun k_ h_ => .inr h_)) (Kd.R_lt (by (with_reducible repeat (first | apply Kd.R_alloc | apply Kd.R_drewN | apply Kd.R_drew)); exact HO_0.out))) (below_size (by repeat (first | (with_reducible first | exact HB.out | apply below_alloc | apply pw_below_drewN | apply below_drew1) | exact HB.out)))); have n2_ := Aside0.mk (Kept.below (S := (fun k_ => P0_ k_)) (by repeat (first | (with_reducible first | exact HK.out | apply Kept.alloc | apply Kept.drewN | apply Kept.drew) | exact HK.out)) hb); have n3_ := Aside0.mk (below_step (by repeat (first | (with_reducible first | exact HB.out | apply below_alloc | apply pw_below_drewN | apply below_drew1) | exact HB.out)) hb); clear HO_0; clear HK; clear HB; have HO_0 := n0_; have HO163 := n1_; have HK := n2_; have HB := n3_; clear n0_ n1_ n2_ n3_; clear hb ho26) | ((with_reducible refine gate_builtin (b := .append) (xs := #[.tmp 50, .tmp 51]) rfl ?_); at_builtin; refine Kd.R_append_rows Kd.string (w0 := w0) w0.heap.size rfl (.tmp 50) (.tmp 51) 24 9 (.string ⟨#[]⟩) 16 rfl Try.underlying24 info9 rfl (by decide) (by omega) v162 y161 y160 _ _ _ (fun k_ => (P0_ k_ ∨ w.heap.size ≤ k_) ∧ some k_ ≠ (.slice (some ⟨go20, 0, none⟩) x0_1.length co22 : Value).ownBlock) (fun _ => False) rfl rfl ?aO ?aR (fun _ _ h => h) (fun _ h => h.elim) ?aF ?aB ?aS ?aL ?_; (case aR => rw [show x0_1.length = y160.length from (Kd.R_reads' HO_0.out).1]; repeat (first | exact (Kd.R_reads' HO_0.out).2.2 | (with_reducible refine Kd.C_alloc ?_ _) | (with_reducible refine Kd.C_drewN ?_ _) | (with_reducible refine Kd.C_drew ?_))); (case aB => exact (by repeat (first | (with_reducible first | exact HB.out | apply below_alloc | apply pw_below_drewN | apply below_drew1) | exact HB.out))); (case aF => exact (fun k_ hk => ⟨(.inr (Nat.le_trans (by first | exact HK.out.1 | exact (show Kept w _ (fun k_ => P0_ k_) from by repeat (first | (with_reducible first | exact HK.out | apply Kept.alloc | apply Kept.drewN | apply Kept.drew) | exact HK.out)).1) hk)), Kd.fresh' (Kd.R_lt (by (with_reducible repeat (first | apply Kd.R_alloc | apply Kd.R_drewN | apply Kd.R_drew)); exact HO_0.out)) k_ hk⟩)); (case aO => exact (by (with_reducible repeat (first | apply Kd.R_alloc | apply Kd.R_drewN | apply Kd.R_drew)); exact Kd.R_mono HO163.out (fun _ hk => ⟨hk.1.1, hk.2⟩))); (case aS => exact (below_size (by repeat (first | (with_reducible first | exact HB.out | apply below_alloc | apply pw_below_drewN | apply below_drew1) | exact HB.out)))); (case aL => have := LMc21.out; have hlx_ := (Kd.R_reads' HO_0.out).1; omega); intro v165 w27 ho hb hg hat; rw [← Ny164.out] at ho; have n0_ := Aside0.mk (Kd.R_after (ok := (fun k_ => (P0_ k_ ∨ w.heap.size ≤ k_))) (by (with_reducible repeat (first | apply Kd.R_alloc | apply Kd.R_drewN | apply Kd.R_drew)); exact HO_0.out) hg hat); have n1_ := Aside0.mk (hb); have n2_ := Aside0.mk (Kept.of_grown (S := (fun k_ => P0_ k_)) hg (by repeat (first | (with_reducible first | exact HK.out | apply Kept.alloc | apply Kept.drewN | apply Kept.drew) | exact HK.out)) (fun k_ e_ => (HO163.out.1 k_ e_).1.1)); have n3_ := Aside0.mk (ho); clear HO_0; clear HB; clear HK; clear HO163; have HO_0 := n0_; have HB := n1_; have HK := n2_; have HO166 := n3_; clear n0_ n1_ n2_ n3_; clear ho hb hg hat))
                  go_ret
                  exact ⟨_, by first | rfl | (simp [errW_none, errW_some] <;> rfl) | (simp only [← hji16]; first | rfl | (simp [errW_none, errW_some] <;> rfl)) | (simp [*, errW_none, errW_some] <;> rfl), by (with_reducible repeat (first | apply Kd.R_alloc | apply Kd.R_drewN | apply Kd.R_drew)); exact HO166.out, by (with_reducible repeat (first | apply Kd.R_alloc | apply Kd.R_drewN | apply Kd.R_drew)); exact Kd.R_mono HO_0.out (fun _ hk => hk.1), by repeat (first | (with_reducible first | exact HB.out | apply below_alloc | apply pw_below_drewN | apply below_drew1) | exact HB.out), by repeat (first | (with_reducible first | exact HK.out | apply Kept.alloc | apply Kept.drewN | apply Kept.drew) | exact HK.out)⟩
                · rw [if_neg c21] at H
                  exact absurd H (by simp)
              · rw [if_neg c19] at H
                exact absurd H (by simp)
            · rw [if_neg c18] at H
              exact absurd H (by simp)
          · rw [if_neg c17] at H
            exact absurd H (by simp)
        · rw [if_neg c15] at H
          have c15b0 : decide (0 < (x0_1.length : Int)) = false := decide_eq_false c15
          have c15b1 : decide (0 < x0_1.length) = false := decide_eq_false (by omega)
          clear c15
          obtain ⟨y167, hy167⟩ : ∃ y_ : List ByteArray, y_ = (([] : List ByteArray)) := ⟨_, rfl⟩
          replace H : (if y167.length + x0_1.length < 8796093022208 then (some ((y167 ++ x0_1), x0_1)) else (none)) = some (r1, r2) := by first | (rw [hy167]; with_reducible exact H) | (have H2_ := (Option.bind_some _ _).symm.trans H; rw [hy167]; with_reducible exact H2_) | (have H2_ := (Option.bind_some _ _).symm.trans H; with_reducible exact H2_) | with_reducible exact H | (rw [hy167]; exact H) | exact H
          have Ny167 := Aside0.mk hy167
          clear hy167
          by_cases c28 : y167.length + x0_1.length < 8796093022208
          · rw [if_pos c28] at H
            have LMc28 := Aside0.mk c28
            clear c28
            obtain ⟨y170, hy170⟩ : ∃ y_ : List ByteArray, y_ = (y167 ++ x0_1) := ⟨_, rfl⟩
            replace H : (some (y170, x0_1)) = some (r1, r2) := by first | (rw [hy170]; with_reducible exact H) | (have H2_ := (Option.bind_some _ _).symm.trans H; rw [hy170]; with_reducible exact H2_) | (have H2_ := (Option.bind_some _ _).symm.trans H; with_reducible exact H2_) | with_reducible exact H | (rw [hy170]; exact H) | exact H
            have Ny170 := Aside0.mk hy170
            clear hy170
            simp only [Option.some.injEq, Prod.mk.injEq] at H
            obtain ⟨rfl, rfl⟩ := H
            obtain ⟨Ao29, co29, eo29⟩ := Kd.R_slice HO_0.out
            subst eo29
            go_wp2_with (first | ((with_reducible refine gate_dst (N := 50) rfl ?_); refine Kd.R_lit Kd.string _ 9 ?hg (N := 50) ?hd (xs := ([] : List ByteArray)) (inner := []) (ok := fun _ => True) (okp := fun _ => True) ?hr ?hp (fun _ hk => hk) trivial (Below.refl _ _) (Nat.le_refl _) (by simp) ?_; (case hd => rfl); (case hg => rfl); (case hr => first | (go_simp; done) | (go_simp; rfl)); (case hp => exact (Reps.none _ _)); intro v168 w30 ho31 hb hg_ hnew_; clear hg_ hnew_; (first | rw [← Ny167.out] at ho31 | (simp only [Int.reduceToNat] at ho31; rw [← Ny167.out] at ho31)); have n0_ := Aside0.mk (Kd.R_elder' (by (with_reducible repeat (first | apply Kd.R_alloc | apply Kd.R_drewN | apply Kd.R_drew)); exact HO_0.out) (Kd.R_base ho31) hb); have n1_ := Aside0.mk (Kd.R_lower (Kd.R_new' (Kd.R_newM (M := fun k_ => (P0_ k_ ∨ w.heap.size ≤ k_)) ho31 (by first | exact HK.out.1 | exact (show Kept w _ (fun k_ => P0_ k_) from by repeat (first | (with_reducible first | exact HK.out | apply Kept.alloc | apply Kept.drewN | apply Kept.drew) | exact HK.out)).1) (fun k_ h_ => .inr h_)) (Kd.R_lt (by (with_reducible repeat (first | apply Kd.R_alloc | apply Kd.R_drewN | apply Kd.R_drew)); exact HO_0.out))) (below_size (by repeat (first | (with_reducible first | exact HB.out | apply below_alloc | apply pw_below_drewN | apply below_drew1) | exact HB.out)))); have n2_ := Aside0.mk (Kept.below (S := (fun k_ => P0_ k_)) (by repeat (first | (with_reducible first | exact HK.out | apply Kept.alloc | apply Kept.drewN | apply Kept.drew) | exact HK.out)) hb); have n3_ := Aside0.mk (below_step (by repeat (first | (with_reducible first | exact HB.out | apply below_alloc | apply pw_below_drewN | apply below_drew1) | exact HB.out)) hb); clear HO_0; clear HK; clear HB; have HO_0 := n0_; have HO169 := n1_; have HK := n2_; have HB := n3_; clear n0_ n1_ n2_ n3_; clear hb ho31) | ((with_reducible refine gate_builtin (b := .append) (xs := #[.tmp 50, .tmp 51]) rfl ?_); at_builtin; refine Kd.R_append_rows Kd.string (w0 := w0) w0.heap.size rfl (.tmp 50) (.tmp 51) 24 9 (.string ⟨#[]⟩) 16 rfl Try.underlying24 info9 rfl (by decide) (by omega) v168 y167 x0_1 _ _ _ (fun k_ => (P0_ k_ ∨ w.heap.size ≤ k_) ∧ some k_ ≠ (.slice Ao29 x0_1.length co29 : Value).ownBlock) (fun _ => False) rfl rfl ?aO ?aR (fun _ _ h => h) (fun _ h => h.elim) ?aF ?aB ?aS ?aL ?_; (case aR => repeat (first | exact (Kd.R_reads' HO_0.out).2.2 | (with_reducible refine Kd.C_alloc ?_ _) | (with_reducible refine Kd.C_drewN ?_ _) | (with_reducible refine Kd.C_drew ?_))); (case aB => exact (by repeat (first | (with_reducible first | exact HB.out | apply below_alloc | apply pw_below_drewN | apply below_drew1) | exact HB.out))); (case aF => exact (fun k_ hk => ⟨(.inr (Nat.le_trans (by first | exact HK.out.1 | exact (show Kept w _ (fun k_ => P0_ k_) from by repeat (first | (with_reducible first | exact HK.out | apply Kept.alloc | apply Kept.drewN | apply Kept.drew) | exact HK.out)).1) hk)), Kd.fresh' (Kd.R_lt (by (with_reducible repeat (first | apply Kd.R_alloc | apply Kd.R_drewN | apply Kd.R_drew)); exact HO_0.out)) k_ hk⟩)); (case aO => exact (by (with_reducible repeat (first | apply Kd.R_alloc | apply Kd.R_drewN | apply Kd.R_drew)); exact Kd.R_mono HO169.out (fun _ hk => ⟨hk.1.1, hk.2⟩))); (case aS => exact (below_size (by repeat (first | (with_reducible first | exact HB.out | apply below_alloc | apply pw_below_drewN | apply below_drew1) | exact HB.out)))); (case aL => have := LMc28.out; omega); intro v171 w32 ho hb hg hat; rw [← Ny170.out] at ho; have n0_ := Aside0.mk (Kd.R_after (ok := (fun k_ => (P0_ k_ ∨ w.heap.size ≤ k_))) (by (with_reducible repeat (first | apply Kd.R_alloc | apply Kd.R_drewN | apply Kd.R_drew)); exact HO_0.out) hg hat); have n1_ := Aside0.mk (hb); have n2_ := Aside0.mk (Kept.of_grown (S := (fun k_ => P0_ k_)) hg (by repeat (first | (with_reducible first | exact HK.out | apply Kept.alloc | apply Kept.drewN | apply Kept.drew) | exact HK.out)) (fun k_ e_ => (HO169.out.1 k_ e_).1.1)); have n3_ := Aside0.mk (ho); clear HO_0; clear HB; clear HK; clear HO169; have HO_0 := n0_; have HB := n1_; have HK := n2_; have HO172 := n3_; clear n0_ n1_ n2_ n3_; clear ho hb hg hat))
            go_ret
            exact ⟨_, by first | rfl | (simp [errW_none, errW_some] <;> rfl) | (simp [*, errW_none, errW_some] <;> rfl), by (with_reducible repeat (first | apply Kd.R_alloc | apply Kd.R_drewN | apply Kd.R_drew)); exact HO172.out, by (with_reducible repeat (first | apply Kd.R_alloc | apply Kd.R_drewN | apply Kd.R_drew)); exact Kd.R_mono HO_0.out (fun _ hk => hk.1), by repeat (first | (with_reducible first | exact HB.out | apply below_alloc | apply pw_below_drewN | apply below_drew1) | exact HB.out), by repeat (first | (with_reducible first | exact HK.out | apply Kept.alloc | apply Kept.drewN | apply Kept.drew) | exact HK.out)⟩
          · rw [if_neg c28] at H
            exact absurd H (by simp)

end Go.Proofs.Ytbjlfenappnccaa.P

end
section
/- kept: the texts stand, and the mark behind them: contract by hand. -/
namespace Go.Proofs.Ytbjlfenappnccaa.P
open Go.RowKit Go.Proofs.YtbjlfenappnccaaW.PrintWords Go.Proofs.YtbjlfenappnccaaW.PrintLast Go.Proofs.YtbjlfenappnccaaW.PrintMore Go.Proofs.Ytbjlfenappnccaa.Hand
set_option linter.unusedVariables false
set_option linter.unusedSimpArgs false

theorem cut_cap {P : Program} (t e : TypeId) (kh : IntKind) {i : TypeInfo} (ht : P.underlying t = some (.slice e)) (hi : P.info? e = some i) (A : Option Addr) (n c : Nat) (j : Int) (h0 : 0 ≤ j) (hm : j ≤ c) (hc : n ≤ c) :
    ∀ W : World, (Instr.slice t (.slice A n c) none (some (.int kh j)) none).run P W = .ok (.slice A j.toNat c) W := by
  intro W
  have hel : P.elem t = e := by simp [Program.elem, ht]
  have hu : P.underlying t = some (.slice (P.elem t)) := by rw [hel]; exact ht
  have ha : (A.map fun x => x.add 0) = A := by cases A <;> simp [Addr.add]
  rw [run_slice_h W t A n c hu kh j h0 (by omega), hel]
  simp [sizeOf, typeInfo, hi, sliced, Result.andThen, ha]
theorem sameT_loop (l : List ByteArray) (hl : l.length ≤ 140737488355328) (d : Nat) : ∀ (k i : Nat), i + d = l.length → d < k → winnowlaw14_sameTexts.l0 k l l (i : Int) = some true := by
  induction d with
  | zero =>
    intro k i hi hk
    obtain ⟨k, rfl⟩ : ∃ m, k = m + 1 := ⟨k - 1, by omega⟩
    rw [winnowlaw14_sameTexts.l0, if_neg (by omega)]
  | succ d ih =>
    intro k i hi hk
    obtain ⟨k, rfl⟩ : ∃ m, k = m + 1 := ⟨k - 1, by omega⟩
    rw [winnowlaw14_sameTexts.l0, if_pos (by omega), if_pos (by omega), if_pos (by omega), if_pos rfl, wrap_succB i (by omega), ih k (i + 1) (by omega) (by omega)]
theorem sameT_eq (l : List ByteArray) (hl : l.length ≤ 140737488355328) (k : Nat) (hk : l.length < k) : winnowlaw14_sameTexts.f k l l = some true := by
  unfold winnowlaw14_sameTexts.f
  rw [if_pos rfl]
  exact sameT_loop l hl l.length k 0 (by omega) hk
def mk_ : ByteArray := ⟨#[109, 97, 114, 107]⟩
set_option maxHeartbeats 4000000 in
theorem kept_any (w : World) (A A1 : Option Addr) (c c1 n : Nat) (l : List ByteArray) (hC : Kd.C Kd.string w A (n + 1) (l ++ [mk_])) (hCn : Kd.C Kd.string w A l.length l) (hc : n + 1 ≤ c) (hn : l.length = n) (hC1 : Kd.C Kd.string w A1 l.length l) (hc1 : n ≤ c1) (hl : n ≤ 140737488351232) :
    Calls Try.prog 12 #[.slice A n c, .slice A1 n c1] w fun e w' => e = .returned (.bool true) ∧ Below w.heap.size w w' := by
  have HSM := Aside0.mk (winnowlaw14_sameTexts.calls (n + 1) A c l A1 c1 l _ w hCn (by omega) hC1 (by omega) (sameT_eq l (by omega) _ (by omega)))
  rw [hn] at HSM
  obtain ⟨ad, e, hx0⟩ := Kd.at_string hC (n : Int) (Int.natCast_nonneg n) (by omega)
  subst e
  rw [rdb_nat _ n (by simp; omega), Int.toNat_natCast] at hx0
  have hm : (l ++ [mk_])[n]'(by simp; omega) = mk_ := by
    rw [List.getElem_append_right (by omega)]
    simp
  rw [hm] at hx0
  have hcut := cut_cap (P := Try.prog) 24 9 .i64 Try.underlying24 (info_parts info9).choose_spec.1 (some ad) n c ((n + 1 : Nat) : Int) (by omega) (by omega) (by omega)
  rw [Int.toNat_natCast] at hcut
  have hw : IntKind.i64.wrap ((n : Int) + 1) = ((n + 1 : Nat) : Int) := by rw [IntKind.wrap_i64]; omega
  have hw2 : wrap64 ((n : Int) + 1) = ((n + 1 : Nat) : Int) := wrap_succB n (by omega)
  have hcut2 : ∀ W : World, (Instr.slice 24 (.slice (some ad) n c) none (some (.int .i64 ((n : Int) + 1))) none).run Try.prog W = .ok (.slice (some ad) (n + 1) c) W := hcut
  have p1 : ((0 : Int) ≤ (n : Int)) = True := eq_true (by omega)
  have p2 : ((0 : Int) ≤ (n : Int) + 1) = True := eq_true (by omega)
  have p3 : ((n : Int) + 1 ≤ (c : Int)) = True := eq_true (by omega)
  have q2 : ((n : Int) < (n : Int) + 1) = True := eq_true (by omega)
  have q3 : (n < n + 1) = True := eq_true (by omega)
  have q1 : ((n : Int) < ((n + 1 : Nat) : Int)) = True := eq_true (by omega)
  have HX0 := Aside0.mk hx0
  clear hC hCn hc hn hC1 hc1 hl hm
  go_enter Try.func12, Try.ntmps12
  go_wp2_with fail
  refine HSM.out.mono ?_
  rintro e w2 ⟨rfl, hD⟩
  have HB := Aside0.mk hD.below
  have hx1 := cell_kept HX0.out (Kept.of_below hD.below (fun _ => False)) (fun h => h)
  clear hD hx0
  go_wp2_with fail
  have hmk : (mk_.toList == ([109, 97, 114, 107] : List UInt8)) = true := by rw [ByteArray.toList_eq]; rfl
  go_ret
  exact ⟨by first | (rw [hmk]; done) | (show Ending.returned (.bool (mk_.toList == ([109, 97, 114, 107] : List UInt8))) = _; rw [hmk]), HB.out⟩
/-! ### turned -/
theorem turned_loop (n : Nat) (hn : n ≤ 8796093021952) (d : Nat) : ∀ (k i : Nat) (l : List ByteArray), i + d = n / 2 → l.length = n → (∀ b ∈ l, b.size ≤ 140737488351232) → d < k → ∃ L : List ByteArray, winnowlaw14_turned.l0 k l (i : Int) = some (L, L) ∧ L.length = n ∧ ∀ b ∈ L, b.size ≤ 140737488351233 := by
  induction d with
  | zero =>
    intro k i l hi hl hx hk
    obtain ⟨k, rfl⟩ : ∃ m, k = m + 1 := ⟨k - 1, by omega⟩
    have hw : wrap64 ((l.length : Int) / 2) = ((n / 2 : Nat) : Int) := by unfold wrap64; omega
    rw [winnowlaw14_turned.l0, hw, if_neg (by omega)]
    rcases Nat.eq_zero_or_pos n with h0 | h0
    · rw [if_neg (by omega), Option.bind_some, if_pos (by rw [List.length_nil]; omega), List.nil_append]
      exact ⟨l, rfl, hl, fun b hb => by have := hx b hb; omega⟩
    · obtain ⟨m, rfl⟩ : ∃ m, n = m + 1 := ⟨n - 1, by omega⟩
      have hw2 : wrap64 ((l.length : Int) - 1) = (m : Int) := by rw [hl]; unfold wrap64; omega
      rw [if_pos (by omega), hw2, if_pos (by omega), if_pos (by omega), rdb_nat l m (by omega), Int.toNat_natCast]
      have hsz := hx l[m] (List.getElem_mem _)
      rw [if_pos (by omega), Option.bind_some, Option.bind_some, if_pos (by rw [List.length_nil, List.length_set]; omega), List.nil_append]
      refine ⟨_, rfl, by rw [List.length_set]; exact hl, fun b hb => ?_⟩
      rcases List.mem_or_eq_of_mem_set hb with h | h
      · have := hx b h; omega
      · subst h
        rw [ByteArray.size_append]
        show l[m].size + 1 ≤ _
        omega
  | succ d ih =>
    intro k i l hi hl hx hk
    obtain ⟨k, rfl⟩ : ∃ m, k = m + 1 := ⟨k - 1, by omega⟩
    have hw : wrap64 ((l.length : Int) / 2) = ((n / 2 : Nat) : Int) := by unfold wrap64; omega
    have hw2 : wrap64 ((wrap64 ((l.length : Int) - 1)) - (i : Int)) = ((n - 1 - i : Nat) : Int) := by rw [hl]; unfold wrap64; omega
    rw [winnowlaw14_turned.l0, hw, if_pos (by omega), hw2, if_pos (by omega), if_pos (by omega), if_pos (by omega), if_pos (by omega), wrap_succB i (by omega)]
    refine ih k (i + 1) _ (by omega) (by rw [List.length_set, List.length_set]; exact hl) (fun b hb => ?_) (by omega)
    rcases List.mem_or_eq_of_mem_set hb with h | h
    · rcases List.mem_or_eq_of_mem_set h with h | h
      · exact hx b h
      · subst h; rw [rdb_nat l _ (by omega)]; exact hx _ (List.getElem_mem _)
    · subst h; rw [rdb_nat l _ (by omega)]; exact hx _ (List.getElem_mem _)
theorem turned_eq (l : List ByteArray) (hl : l.length ≤ 8796093021952) (hx : ∀ b ∈ l, b.size ≤ 140737488351232) (k : Nat) (hk : l.length < k) : ∃ L : List ByteArray, winnowlaw14_turned.f k l = some (L, L) ∧ L.length = l.length ∧ ∀ b ∈ L, b.size ≤ 140737488351233 := by
  unfold winnowlaw14_turned.f
  exact turned_loop l.length hl (l.length / 2) k 0 l (by omega) rfl hx (by omega)
end Go.Proofs.Ytbjlfenappnccaa.P

end
