/- A text's lines, in plain lists, and the document's answers. For texts of bulk at most 2^20 (the second form). -/
import Derived.Test.YtbcggfjfgoabpaaPf17
import Derived.Test.YtbcggfjfgoabpaaPf15
import Derived.Test.YtbcggfjfgoabpaaPf16
import Derived.Test.YtbcggfjfgoabpaaPf13
namespace Go.Proofs.Ytbcggfjfgoabpaa.P
open Go.RowKit Go.Proofs.YtbcggfjfgoabpaaW.PrintWords Go.Proofs.YtbcggfjfgoabpaaW.PrintLast
set_option linter.unusedVariables false

/-- d bytes are left behind i; a line has begun at s: where each line begins, and where it ends -/
def lnsD (t : ByteArray) : Nat → Nat → Nat → List (Nat × Nat)
  | 0, s, _ => if s < t.size then [(s, t.size)] else []
  | d + 1, s, i => if bt t (i : Int) = 10 then (s, i) :: lnsD t d (i + 1) (i + 1) else lnsD t d s (i + 1)
def lns (t : ByteArray) : List (Nat × Nat) := lnsD t t.size 0 0
theorem lnsD_length (t : ByteArray) (d : Nat) : ∀ s i, (lnsD t d s i).length ≤ d + 1 := by
  induction d with
  | zero => intro s i; unfold lnsD; split <;> simp
  | succ d ih =>
    intro s i
    unfold lnsD
    split
    · have := ih (i + 1) (i + 1); rw [List.length_cons]; omega
    · have := ih s (i + 1); omega
theorem lnsD_in (t : ByteArray) (d : Nat) : ∀ s i, i + d = t.size → s ≤ i → ∀ p ∈ lnsD t d s i, s ≤ p.1 ∧ p.1 ≤ p.2 ∧ p.2 ≤ t.size := by
  induction d with
  | zero =>
    intro s i hi hs p hp
    unfold lnsD at hp
    split at hp
    · rcases List.mem_cons.1 hp with rfl | hp
      · exact ⟨Nat.le_refl _, by omega, Nat.le_refl _⟩
      · cases hp
    · cases hp
  | succ d ih =>
    intro s i hi hs p hp
    unfold lnsD at hp
    split at hp
    · rcases List.mem_cons.1 hp with rfl | hp
      · exact ⟨Nat.le_refl _, hs, by show i ≤ t.size; omega⟩
      · have := ih (i + 1) (i + 1) (by omega) (Nat.le_refl _) p hp
        exact ⟨by omega, this.2⟩
    · have := ih s (i + 1) (by omega) (by omega) p hp
      exact this
/-- a line with its place, as the document tells it -/
def lineOf (t : ByteArray) (p : Nat × Nat) : S30 := ⟨p.1, t.extract p.1 p.2, if p.2 < t.size then ((p.2 + 1 : Nat) : Int) else (t.size : Int)⟩
theorem wrapL (i : Nat) (h : i ≤ 140737488355328) : wrap64 ((i : Int) + 1) = ((i + 1 : Nat) : Int) := by unfold wrap64; omega
theorem RefAll_loop (t : ByteArray) (ht : t.size ≤ 1048576) (d : Nat) : ∀ (k s i : Nat) (acc : List S30), i + d = t.size → s ≤ i → acc.length + d ≤ 2097152 → d < k →
    winnowref13_All.l0 k t acc (s : Int) (i : Int) = some (acc ++ (lnsD t d s i).map (lineOf t)) := by
  induction d with
  | zero =>
    intro k s i acc hi hs ha hk
    obtain ⟨k, rfl⟩ : ∃ m, k = m + 1 := ⟨k - 1, by omega⟩
    have c1 : ¬ ((i : Int) < (t.size : Int)) := by omega
    rw [winnowref13_All.l0, if_neg c1, lnsD]
    by_cases h : s < t.size
    · have c2 : (s : Int) < (t.size : Int) := by omega
      have c3 : (s : Int) ≤ (t.size : Int) := by omega
      rw [if_pos c2, if_pos (Int.natCast_nonneg s), if_pos c3, if_pos (show acc.length < 4398046511104 by omega), if_pos h, Int.toNat_natCast]
      simp [lineOf]
    · have c2 : ¬ (s : Int) < (t.size : Int) := by omega
      rw [if_neg c2, if_neg h]
      simp
  | succ d ih =>
    intro k s i acc hi hs ha hk
    obtain ⟨k, rfl⟩ : ∃ m, k = m + 1 := ⟨k - 1, by omega⟩
    have c1 : (i : Int) < (t.size : Int) := by omega
    have c2 : (s : Int) ≤ (i : Int) := by omega
    have c3 : (i : Int) ≤ (t.size : Int) := by omega
    rw [winnowref13_All.l0, if_pos c1, if_pos (Int.natCast_nonneg i), lnsD, wrapL i (by omega)]
    by_cases h : bt t (i : Int) = 10
    · rw [if_pos h, if_pos (Int.natCast_nonneg s), if_pos c2, if_pos c3, if_pos (show acc.length < 4398046511104 by omega), if_pos h, Int.toNat_natCast, Int.toNat_natCast]
      rw [ih k (i + 1) (i + 1) _ (by omega) (Nat.le_refl _) (by rw [List.length_append, List.length_singleton]; omega) (by omega)]
      have hlt : i < t.size := by omega
      simp [lineOf, hlt]
    · rw [if_neg h, if_neg h]
      exact ih k s (i + 1) acc (by omega) (by omega) (by omega) (by omega)
theorem RefAll_eq (t : ByteArray) (ht : t.size ≤ 1048576) (k : Nat) (hk : t.size < k) : winnowref13_All.f k t = some ((lns t).map (lineOf t)) := by
  unfold winnowref13_All.f
  have := RefAll_loop t ht t.size k 0 0 [] (by omega) (Nat.le_refl _) (by rw [List.length_nil]; omega) hk
  rw [List.nil_append] at this
  exact this
theorem rd30_nat (l : List S30) (i : Nat) (h : i < l.length) : rd_T30 l (i : Int) = l[i] := by
  unfold rd_T30
  rw [Int.toNat_natCast, List.getD_eq_getElem?_getD, List.getElem?_eq_getElem h]
  rfl
theorem RefLines_loop (l : List S30) (hl : l.length ≤ 2097152) (d : Nat) : ∀ (k i : Nat) (acc : List ByteArray), i + d = l.length → acc.length + d ≤ 4194304 → d < k → winnowref13_Lines.l0 k acc l (i : Int) = some (acc ++ (l.drop i).map S30.f1) := by
  induction d with
  | zero =>
    intro k i acc hi ha hk
    obtain ⟨k, rfl⟩ : ∃ m, k = m + 1 := ⟨k - 1, by omega⟩
    have c1 : ¬ ((i : Int) < (l.length : Int)) := by omega
    rw [winnowref13_Lines.l0, if_neg c1, List.drop_of_length_le (by omega)]
    simp
  | succ d ih =>
    intro k i acc hi ha hk
    obtain ⟨k, rfl⟩ : ∃ m, k = m + 1 := ⟨k - 1, by omega⟩
    have c1 : (i : Int) < (l.length : Int) := by omega
    rw [winnowref13_Lines.l0, if_pos c1, if_pos (Int.natCast_nonneg i), if_pos (show acc.length < 8796093022208 by omega), rd30_nat l i (by omega), wrapL i (by omega), ih k (i + 1) _ (by omega) (by rw [List.length_append, List.length_singleton]; omega) (by omega), List.append_assoc, List.drop_eq_getElem_cons (show i < l.length by omega)]
    rfl
/-- the lines themselves -/
def lnT (t : ByteArray) (p : Nat × Nat) : ByteArray := t.extract p.1 p.2
theorem RefLines_eq (t : ByteArray) (ht : t.size ≤ 1048576) (k : Nat) (hk : t.size + 2 < k) : winnowref13_Lines.f k t = some ((lns t).map (lnT t)) := by
  unfold winnowref13_Lines.f
  have hlen : (lns t).length ≤ t.size + 1 := lnsD_length t t.size 0 0
  rw [RefAll_eq t ht k (by omega), Option.bind_some]
  have := RefLines_loop ((lns t).map (lineOf t)) (by rw [List.length_map]; omega) (lns t).length k 0 [] (by rw [List.length_map]; omega) (by rw [List.length_nil]; omega) (by omega)
  rw [List.nil_append, List.drop_zero, List.map_map] at this
  exact this
/-- those that begin within -/
def within (a b : Int) (p : Nat × Nat) : Bool := decide (a ≤ (p.1 : Int)) && decide ((p.1 : Int) < b)
theorem RefOf_loop (t : ByteArray) (a b : Int) (l : List (Nat × Nat)) (hl : l.length ≤ 2097152) (d : Nat) : ∀ (k i : Nat) (acc : List ByteArray), i + d = l.length → acc.length + d ≤ 4194304 → d < k →
    winnowref13_Of.l0 k acc (l.map (lineOf t)) (i : Int) a b = some (acc ++ ((l.drop i).filter (within a b)).map (lnT t), 0) := by
  induction d with
  | zero =>
    intro k i acc hi ha hk
    obtain ⟨k, rfl⟩ : ∃ m, k = m + 1 := ⟨k - 1, by omega⟩
    have c1 : ¬ ((i : Int) < ((l.map (lineOf t)).length : Int)) := by rw [List.length_map]; omega
    rw [winnowref13_Of.l0, if_neg c1, List.drop_of_length_le (by omega)]
    simp
  | succ d ih =>
    intro k i acc hi ha hk
    obtain ⟨k, rfl⟩ : ∃ m, k = m + 1 := ⟨k - 1, by omega⟩
    have hil : i < l.length := by omega
    have c1 : (i : Int) < ((l.map (lineOf t)).length : Int) := by rw [List.length_map]; omega
    have hr : rd_T30 (l.map (lineOf t)) (i : Int) = lineOf t l[i] := by rw [rd30_nat _ i (by rw [List.length_map]; exact hil), List.getElem_map]
    rw [winnowref13_Of.l0, if_pos c1, if_pos (Int.natCast_nonneg i), hr, wrapL i (by omega), List.drop_eq_getElem_cons hil, List.filter_cons]
    have e0 : (lineOf t l[i]).f0 = (l[i].1 : Int) := rfl
    have e1 : (lineOf t l[i]).f1 = lnT t l[i] := rfl
    rw [e0, e1]
    by_cases h1 : (l[i].1 : Int) ≥ a
    · rw [if_pos h1]
      by_cases h2 : (l[i].1 : Int) < b
      · have hw : within a b l[i] = true := by unfold within; rw [decide_eq_true (show a ≤ (l[i].1 : Int) from h1), decide_eq_true h2]; rfl
        rw [if_pos h2, if_pos (show acc.length < 8796093022208 by omega), if_pos hw, ih k (i + 1) _ (by omega) (by rw [List.length_append, List.length_singleton]; omega) (by omega), List.append_assoc]
        rfl
      · have hw : ¬ within a b l[i] = true := by unfold within; rw [decide_eq_false h2]; simp
        rw [if_neg h2, if_neg hw]
        exact ih k (i + 1) acc (by omega) (by omega) (by omega)
    · have hw : ¬ within a b l[i] = true := by unfold within; rw [decide_eq_false (show ¬ a ≤ (l[i].1 : Int) from h1)]; simp
      rw [if_neg h1, if_neg hw]
      exact ih k (i + 1) acc (by omega) (by omega) (by omega)
/-- what Of answers -/
def ofL (t : ByteArray) (a b : Int) : List ByteArray × Int := if (t.size : Int) > 4194304 then ([], 2) else if a < 0 ∨ a > b ∨ b > (t.size : Int) then ([], 3) else (((lns t).filter (within a b)).map (lnT t), 0)
theorem RefOf_eq (t : ByteArray) (ht : t.size ≤ 1048576) (a b : Int) (k : Nat) (hk : t.size + 4 < k) : winnowref13_Of.f k t a b = some (ofL t a b) := by
  obtain ⟨k, rfl⟩ : ∃ m, k = m + 1 := ⟨k - 1, by omega⟩
  have hlen : (lns t).length ≤ t.size + 1 := lnsD_length t t.size 0 0
  have hbad : winnowref13_Of.j0 (k + 1) t true a b = some ([], 3) := by rw [winnowref13_Of.j0, if_pos rfl]
  have hgood : winnowref13_Of.j0 (k + 1) t false a b = some (((lns t).filter (within a b)).map (lnT t), 0) := by
    rw [winnowref13_Of.j0, if_neg (show ¬ (false = true) by decide), RefAll_eq t ht k (by omega), Option.bind_some]
    have := RefOf_loop t a b (lns t) (by omega) (lns t).length k 0 [] (by omega) (by rw [List.length_nil]; omega) (by omega)
    rw [List.nil_append, List.drop_zero] at this
    exact this
  unfold winnowref13_Of.f ofL
  rw [if_neg (show ¬ (t.size : Int) > 4194304 by omega), if_neg (show ¬ (t.size : Int) > 4194304 by omega)]
  by_cases h1 : a < 0
  · rw [if_pos h1, hbad, if_pos (.inl h1)]
  · rw [if_neg h1]
    by_cases h2 : a > b
    · rw [if_pos h2, hbad, if_pos (.inr (.inl h2))]
    · rw [if_neg h2]
      by_cases h3 : b > (t.size : Int)
      · rw [decide_eq_true h3, hbad, if_pos (.inr (.inr h3))]
      · rw [decide_eq_false h3, hgood, if_neg (by omega)]
end Go.Proofs.Ytbcggfjfgoabpaa.P
