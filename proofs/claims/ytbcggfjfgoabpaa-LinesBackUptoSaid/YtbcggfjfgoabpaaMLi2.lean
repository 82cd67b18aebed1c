/- Several texts laid together (wip/tools/merge2.py): LinePlain, LineDecode, HEnds, RoundAny, HLines, Marks, Shelf, HSortInt, Pf19, SplitsPlain. -/
import Derived.Test.YtbcggfjfgoabpaaMLi1
import Derived.Laws.RangeString
import Derived.Laws.RangeAny
import Derived.RangeFuncNested
import Derived.RangeFuncBound
import Derived.RangeFuncCalls
import Derived.RangeFuncLeaves
import Derived.RangeFuncBox
import Derived.Shelf.Abstract
import Derived.Shelf.RegionOpen
import Derived.WalkKit
import Derived.OwnWalkIn
import Derived.TacticsInMore
import Derived.LoopNIn
import Derived.LoopIn
import Derived.Maps.AppendAt
import Derived.Lib.OthersKept
import Derived.OrdersHeld
import Derived.Deep.RegionHeld3
import Derived.Shelf.Sort.Plain
import Derived.Shelf.Slices.In.SortNone
import Derived.Test.YtbcggfjfgoabpaaProg
section
/- A text's lines, in plain lists, and the document's answers. For texts of bulk at most 2^22 (the second form). -/
namespace Go.Proofs.Ytbcggfjfgoabpaa.P
open Go.RowKit Go.Proofs.YtbcggfjfgoabpaaW.PrintWords Go.Proofs.YtbcggfjfgoabpaaW.PrintLast
set_option linter.unusedVariables false

/-- d bytes are left behind i; a line has begun at s: where each line begins, and where it ends -/
def lnsD (t : ByteArray) : Nat → Nat → Nat → List (Nat × Nat)
  | 0, s, _ => if s < t.size then [(s, t.size)] else []
  | d + 1, s, i => if bt t (i : Int) = 10 then (s, i) :: lnsD t d (i + 1) (i + 1) else lnsD t d s (i + 1)
def lns (t : ByteArray) : List (Nat × Nat) := lnsD t t.size 0 0
theorem lnsD_length (t : ByteArray) (d : Nat) : ∀ s i, (lnsD t d s i).length ≤ d + 1 := by
  induction d with
  | zero => intro s i; unfold lnsD; split <;> simp
  | succ d ih =>
    intro s i
    unfold lnsD
    split
    · have := ih (i + 1) (i + 1); rw [List.length_cons]; omega
    · have := ih s (i + 1); omega
theorem lnsD_in (t : ByteArray) (d : Nat) : ∀ s i, i + d = t.size → s ≤ i → ∀ p ∈ lnsD t d s i, s ≤ p.1 ∧ p.1 ≤ p.2 ∧ p.2 ≤ t.size := by
  induction d with
  | zero =>
    intro s i hi hs p hp
    unfold lnsD at hp
    split at hp
    · rcases List.mem_cons.1 hp with rfl | hp
      · exact ⟨Nat.le_refl _, by omega, Nat.le_refl _⟩
      · cases hp
    · cases hp
  | succ d ih =>
    intro s i hi hs p hp
    unfold lnsD at hp
    split at hp
    · rcases List.mem_cons.1 hp with rfl | hp
      · exact ⟨Nat.le_refl _, hs, by show i ≤ t.size; omega⟩
      · have := ih (i + 1) (i + 1) (by omega) (Nat.le_refl _) p hp
        exact ⟨by omega, this.2⟩
    · have := ih s (i + 1) (by omega) (by omega) p hp
      exact this
/-- a line with its place, as the document tells it -/
def lineOf (t : ByteArray) (p : Nat × Nat) : S30 := ⟨p.1, t.extract p.1 p.2, if p.2 < t.size then ((p.2 + 1 : Nat) : Int) else (t.size : Int)⟩
theorem wrapL (i : Nat) (h : i ≤ 140737488355328) : wrap64 ((i : Int) + 1) = ((i + 1 : Nat) : Int) := by unfold wrap64; omega
theorem RefAll_loop (t : ByteArray) (ht : t.size ≤ 4194304) (d : Nat) : ∀ (k s i : Nat) (acc : List S30), i + d = t.size → s ≤ i → acc.length + d ≤ 8388608 → d < k →
    winnowref13_All.l0 k t acc (s : Int) (i : Int) = some (acc ++ (lnsD t d s i).map (lineOf t)) := by
  induction d with
  | zero =>
    intro k s i acc hi hs ha hk
    obtain ⟨k, rfl⟩ : ∃ m, k = m + 1 := ⟨k - 1, by omega⟩
    have c1 : ¬ ((i : Int) < (t.size : Int)) := by omega
    rw [winnowref13_All.l0, if_neg c1, lnsD]
    by_cases h : s < t.size
    · have c2 : (s : Int) < (t.size : Int) := by omega
      have c3 : (s : Int) ≤ (t.size : Int) := by omega
      rw [if_pos c2, if_pos (Int.natCast_nonneg s), if_pos c3, if_pos (show acc.length < 4398046511104 by omega), if_pos h, Int.toNat_natCast]
      simp [lineOf]
    · have c2 : ¬ (s : Int) < (t.size : Int) := by omega
      rw [if_neg c2, if_neg h]
      simp
  | succ d ih =>
    intro k s i acc hi hs ha hk
    obtain ⟨k, rfl⟩ : ∃ m, k = m + 1 := ⟨k - 1, by omega⟩
    have c1 : (i : Int) < (t.size : Int) := by omega
    have c2 : (s : Int) ≤ (i : Int) := by omega
    have c3 : (i : Int) ≤ (t.size : Int) := by omega
    rw [winnowref13_All.l0, if_pos c1, if_pos (Int.natCast_nonneg i), lnsD, wrapL i (by omega)]
    by_cases h : bt t (i : Int) = 10
    · rw [if_pos h, if_pos (Int.natCast_nonneg s), if_pos c2, if_pos c3, if_pos (show acc.length < 4398046511104 by omega), if_pos h, Int.toNat_natCast, Int.toNat_natCast]
      rw [ih k (i + 1) (i + 1) _ (by omega) (Nat.le_refl _) (by rw [List.length_append, List.length_singleton]; omega) (by omega)]
      have hlt : i < t.size := by omega
      simp [lineOf, hlt]
    · rw [if_neg h, if_neg h]
      exact ih k s (i + 1) acc (by omega) (by omega) (by omega) (by omega)
theorem RefAll_eq (t : ByteArray) (ht : t.size ≤ 4194304) (k : Nat) (hk : t.size < k) : winnowref13_All.f k t = some ((lns t).map (lineOf t)) := by
  unfold winnowref13_All.f
  have := RefAll_loop t ht t.size k 0 0 [] (by omega) (Nat.le_refl _) (by rw [List.length_nil]; omega) hk
  rw [List.nil_append] at this
  exact this
theorem rd30_nat (l : List S30) (i : Nat) (h : i < l.length) : rd_T30 l (i : Int) = l[i] := by
  unfold rd_T30
  rw [Int.toNat_natCast, List.getD_eq_getElem?_getD, List.getElem?_eq_getElem h]
  rfl
theorem RefLines_loop (l : List S30) (hl : l.length ≤ 8388608) (d : Nat) : ∀ (k i : Nat) (acc : List ByteArray), i + d = l.length → acc.length + d ≤ 16777216 → d < k → winnowref13_Lines.l0 k acc l (i : Int) = some (acc ++ (l.drop i).map S30.f1) := by
  induction d with
  | zero =>
    intro k i acc hi ha hk
    obtain ⟨k, rfl⟩ : ∃ m, k = m + 1 := ⟨k - 1, by omega⟩
    have c1 : ¬ ((i : Int) < (l.length : Int)) := by omega
    rw [winnowref13_Lines.l0, if_neg c1, List.drop_of_length_le (by omega)]
    simp
  | succ d ih =>
    intro k i acc hi ha hk
    obtain ⟨k, rfl⟩ : ∃ m, k = m + 1 := ⟨k - 1, by omega⟩
    have c1 : (i : Int) < (l.length : Int) := by omega
    rw [winnowref13_Lines.l0, if_pos c1, if_pos (Int.natCast_nonneg i), if_pos (show acc.length < 8796093022208 by omega), rd30_nat l i (by omega), wrapL i (by omega), ih k (i + 1) _ (by omega) (by rw [List.length_append, List.length_singleton]; omega) (by omega), List.append_assoc, List.drop_eq_getElem_cons (show i < l.length by omega)]
    rfl
/-- the lines themselves -/
def lnT (t : ByteArray) (p : Nat × Nat) : ByteArray := t.extract p.1 p.2
theorem RefLines_eq (t : ByteArray) (ht : t.size ≤ 4194304) (k : Nat) (hk : t.size + 2 < k) : winnowref13_Lines.f k t = some ((lns t).map (lnT t)) := by
  unfold winnowref13_Lines.f
  have hlen : (lns t).length ≤ t.size + 1 := lnsD_length t t.size 0 0
  rw [RefAll_eq t ht k (by omega), Option.bind_some]
  have := RefLines_loop ((lns t).map (lineOf t)) (by rw [List.length_map]; omega) (lns t).length k 0 [] (by rw [List.length_map]; omega) (by rw [List.length_nil]; omega) (by omega)
  rw [List.nil_append, List.drop_zero, List.map_map] at this
  exact this
/-- those that begin within -/
def within (a b : Int) (p : Nat × Nat) : Bool := decide (a ≤ (p.1 : Int)) && decide ((p.1 : Int) < b)
theorem RefOf_loop (t : ByteArray) (a b : Int) (l : List (Nat × Nat)) (hl : l.length ≤ 8388608) (d : Nat) : ∀ (k i : Nat) (acc : List ByteArray), i + d = l.length → acc.length + d ≤ 16777216 → d < k →
    winnowref13_Of.l0 k acc (l.map (lineOf t)) (i : Int) a b = some (acc ++ ((l.drop i).filter (within a b)).map (lnT t), 0) := by
  induction d with
  | zero =>
    intro k i acc hi ha hk
    obtain ⟨k, rfl⟩ : ∃ m, k = m + 1 := ⟨k - 1, by omega⟩
    have c1 : ¬ ((i : Int) < ((l.map (lineOf t)).length : Int)) := by rw [List.length_map]; omega
    rw [winnowref13_Of.l0, if_neg c1, List.drop_of_length_le (by omega)]
    simp
  | succ d ih =>
    intro k i acc hi ha hk
    obtain ⟨k, rfl⟩ : ∃ m, k = m + 1 := ⟨k - 1, by omega⟩
    have hil : i < l.length := by omega
    have c1 : (i : Int) < ((l.map (lineOf t)).length : Int) := by rw [List.length_map]; omega
    have hr : rd_T30 (l.map (lineOf t)) (i : Int) = lineOf t l[i] := by rw [rd30_nat _ i (by rw [List.length_map]; exact hil), List.getElem_map]
    rw [winnowref13_Of.l0, if_pos c1, if_pos (Int.natCast_nonneg i), hr, wrapL i (by omega), List.drop_eq_getElem_cons hil, List.filter_cons]
    have e0 : (lineOf t l[i]).f0 = (l[i].1 : Int) := rfl
    have e1 : (lineOf t l[i]).f1 = lnT t l[i] := rfl
    rw [e0, e1]
    by_cases h1 : (l[i].1 : Int) ≥ a
    · rw [if_pos h1]
      by_cases h2 : (l[i].1 : Int) < b
      · have hw : within a b l[i] = true := by unfold within; rw [decide_eq_true (show a ≤ (l[i].1 : Int) from h1), decide_eq_true h2]; rfl
        rw [if_pos h2, if_pos (show acc.length < 8796093022208 by omega), if_pos hw, ih k (i + 1) _ (by omega) (by rw [List.length_append, List.length_singleton]; omega) (by omega), List.append_assoc]
        rfl
      · have hw : ¬ within a b l[i] = true := by unfold within; rw [decide_eq_false h2]; simp
        rw [if_neg h2, if_neg hw]
        exact ih k (i + 1) acc (by omega) (by omega) (by omega)
    · have hw : ¬ within a b l[i] = true := by unfold within; rw [decide_eq_false (show ¬ a ≤ (l[i].1 : Int) from h1)]; simp
      rw [if_neg h1, if_neg hw]
      exact ih k (i + 1) acc (by omega) (by omega) (by omega)
/-- what Of answers -/
def ofL (t : ByteArray) (a b : Int) : List ByteArray × Int := if (t.size : Int) > 4194304 then ([], 2) else if a < 0 ∨ a > b ∨ b > (t.size : Int) then ([], 3) else (((lns t).filter (within a b)).map (lnT t), 0)
theorem RefOf_eq (t : ByteArray) (ht : t.size ≤ 4194304) (a b : Int) (k : Nat) (hk : t.size + 4 < k) : winnowref13_Of.f k t a b = some (ofL t a b) := by
  obtain ⟨k, rfl⟩ : ∃ m, k = m + 1 := ⟨k - 1, by omega⟩
  have hlen : (lns t).length ≤ t.size + 1 := lnsD_length t t.size 0 0
  have hbad : winnowref13_Of.j0 (k + 1) t true a b = some ([], 3) := by rw [winnowref13_Of.j0, if_pos rfl]
  have hgood : winnowref13_Of.j0 (k + 1) t false a b = some (((lns t).filter (within a b)).map (lnT t), 0) := by
    rw [winnowref13_Of.j0, if_neg (show ¬ (false = true) by decide), RefAll_eq t ht k (by omega), Option.bind_some]
    have := RefOf_loop t a b (lns t) (by omega) (lns t).length k 0 [] (by omega) (by rw [List.length_nil]; omega) (by omega)
    rw [List.nil_append, List.drop_zero] at this
    exact this
  unfold winnowref13_Of.f ofL
  rw [if_neg (show ¬ (t.size : Int) > 4194304 by omega), if_neg (show ¬ (t.size : Int) > 4194304 by omega)]
  by_cases h1 : a < 0
  · rw [if_pos h1, hbad, if_pos (.inl h1)]
  · rw [if_neg h1]
    by_cases h2 : a > b
    · rw [if_pos h2, hbad, if_pos (.inr (.inl h2))]
    · rw [if_neg h2]
      by_cases h3 : b > (t.size : Int)
      · rw [decide_eq_true h3, hbad, if_pos (.inr (.inr h3))]
      · rw [decide_eq_false h3, hgood, if_neg (by omega)]
end Go.Proofs.Ytbcggfjfgoabpaa.P

end
section
/- A range over a string and a text's lines: a rune is 10 just where the byte is 10, and a rune's other bytes are no 10. -/
namespace Go.Proofs.Ytbcggfjfgoabpaa.P
open Go.RowKit Go.Proofs.YtbcggfjfgoabpaaW.PrintWords Go.Proofs.YtbcggfjfgoabpaaW.PrintLast
set_option linter.unusedVariables false

theorem decode_inner (s : ByteArray) (pos j : Nat) (h1 : pos < j) (h2 : j < pos + (Utf8.decode s pos).2) : j < s.size ∧ (s.get! j).toNat / 64 = 2 := by
  have key : ∀ k, (decide (pos + k < s.size) && (s.get! (pos + k)).toNat / 64 == 2) = true → pos + k < s.size ∧ (s.get! (pos + k)).toNat / 64 = 2 := by
    intro k hk
    rw [Bool.and_eq_true, decide_eq_true_iff, beq_iff_eq] at hk
    exact hk
  unfold Utf8.decode at h2
  dsimp only at h2
  split at h2
  · omega
  · split at h2
    · rename_i _ hc
      rw [Bool.and_eq_true] at hc
      obtain ⟨c0, c1⟩ := hc
      have k1 := key 1 c1
      split at h2
      · obtain rfl : j = pos + 1 := by simp only at h2; omega
        exact k1
      · simp only at h2; omega
    · split at h2
      · rename_i _ _ hc
        rw [Bool.and_eq_true, Bool.and_eq_true] at hc
        obtain ⟨⟨c0, c1⟩, c2⟩ := hc
        have k1 := key 1 c1
        have k2 := key 2 c2
        split at h2
        · rcases (show j = pos + 1 ∨ j = pos + 2 by simp only at h2; omega) with rfl | rfl
          · exact k1
          · exact k2
        · simp only at h2; omega
      · split at h2
        · rename_i _ _ _ hc
          rw [Bool.and_eq_true, Bool.and_eq_true, Bool.and_eq_true] at hc
          obtain ⟨⟨⟨c0, c1⟩, c2⟩, c3⟩ := hc
          have k1 := key 1 c1
          have k2 := key 2 c2
          have k3 := key 3 c3
          split at h2
          · rcases (show j = pos + 1 ∨ j = pos + 2 ∨ j = pos + 3 by simp only at h2; omega) with rfl | rfl | rfl
            · exact k1
            · exact k2
            · exact k3
          · simp only at h2; omega
        · simp only at h2; omega
theorem bt_byte (t : ByteArray) (i : Nat) (h : i < t.size) : bt t (i : Int) = ((t.get! i).toNat : Int) := by
  unfold bt
  rw [dif_pos (by omega)]
  show ((t.get (i : Int).toNat _).toNat : Int) = _
  simp [ByteArray.get!, ByteArray.get, h]
theorem lnsD_skip (t : ByteArray) (s : Nat) (n : Nat) : ∀ d i, i + d = t.size → n ≤ d → (∀ j, i ≤ j → j < i + n → bt t (j : Int) ≠ 10) → lnsD t d s i = lnsD t (d - n) s (i + n) := by
  induction n with
  | zero => intro d i _ _ _; rfl
  | succ n ih =>
    intro d i hi hn hb
    obtain ⟨d, rfl⟩ : ∃ m, d = m + 1 := ⟨d - 1, by omega⟩
    rw [lnsD, if_neg (hb i (Nat.le_refl _) (by omega)), ih d (i + 1) (by omega) (by omega) (fun j h1 h2 => hb j (by omega) (by omega))]
    rw [show d + 1 - (n + 1) = d - n by omega, show i + 1 + n = i + (n + 1) by omega]
theorem get_getElem (t : ByteArray) (i : Nat) (h : i < t.size) : t.get! i = t[i] := by
  simp [ByteArray.get!, getElem!_pos, h]
  rfl
/-- One step of the range, where no line ends. -/
theorem lns_round (t : ByteArray) (s pos : Nat) (h : pos < t.size) (h10 : bt t (pos : Int) ≠ 10) :
    1 ≤ (Utf8.decode t pos).2 ∧ pos + (Utf8.decode t pos).2 ≤ t.size ∧ (Utf8.decode t pos).1 ≠ 10 ∧ lnsD t (t.size - pos) s pos = lnsD t (t.size - (pos + (Utf8.decode t pos).2)) s (pos + (Utf8.decode t pos).2) := by
  have hb := bt_byte t pos h
  rw [get_getElem t pos h] at hb
  have hw : 1 ≤ (Utf8.decode t pos).2 ∧ (Utf8.decode t pos).1 ≠ 10 := by
    by_cases ha : (t[pos]'h).toNat < 128
    · rw [decode_ascii t pos h ha]
      exact ⟨Nat.le_refl _, fun e => h10 (by rw [hb]; simp only at e; omega)⟩
    · have := decode_high t pos h (by omega)
      exact ⟨this.2, by omega⟩
  have hend : pos + (Utf8.decode t pos).2 ≤ t.size := by
    rcases Nat.lt_or_ge 1 (Utf8.decode t pos).2 with h2 | h2
    · have := (decode_inner t pos (pos + (Utf8.decode t pos).2 - 1) (by omega) (by omega)).1
      omega
    · omega
  refine ⟨hw.1, hend, hw.2, ?_⟩
  rw [lnsD_skip t s (Utf8.decode t pos).2 (t.size - pos) pos (by omega) (by omega) (fun j h1 h2 => ?_)]
  · rw [show t.size - pos - (Utf8.decode t pos).2 = t.size - (pos + (Utf8.decode t pos).2) by omega]
  · rcases Nat.eq_or_lt_of_le h1 with e | e
    · rw [← e]; exact h10
    · obtain ⟨q1, q2⟩ := decode_inner t pos j e h2
      rw [bt_byte t j q1]
      omega
/-- One step of the range, at a line's end. -/
theorem lns_round10 (t : ByteArray) (s pos : Nat) (h : pos < t.size) (h10 : bt t (pos : Int) = 10) :
    Utf8.decode t pos = (10, 1) ∧ lnsD t (t.size - pos) s pos = (s, pos) :: lnsD t (t.size - (pos + 1)) (pos + 1) (pos + 1) := by
  have hb := bt_byte t pos h
  rw [get_getElem t pos h, h10] at hb
  have e : (t[pos]'h).toNat = 10 := by omega
  refine ⟨by rw [decode_ascii t pos h (by omega), e], ?_⟩
  obtain ⟨d, hd⟩ : ∃ d, t.size - pos = d + 1 := ⟨t.size - pos - 1, by omega⟩
  rw [hd, lnsD, if_pos h10, show t.size - (pos + 1) = d by omega]
end Go.Proofs.Ytbcggfjfgoabpaa.P

end
section
/- lines.ends and its closure: the iterator's contract. -/
namespace Go.Proofs.Ytbcggfjfgoabpaa.P
open Go.RowKit Go.Shelf Go.Proofs.YtbcggfjfgoabpaaW.PrintWords Go.Proofs.YtbcggfjfgoabpaaW.PrintLast
attribute [local go_sem] Oper.semAt_some
set_option linter.unusedVariables false
set_option linter.unusedSimpArgs false

/-- a line's two ends, in a text -/
abbrev Ln (t : ByteArray) := { p : Nat × Nat // p.1 ≤ p.2 ∧ p.2 ≤ t.size }
def lnV {t : ByteArray} (x : Ln t) : Array Value := #[.int .i64 (x.1.1 : Int), .int .i64 (x.1.2 : Int)]
/-- what a round must keep for the iterator: the text's box, and walks -/
def EK (Bt : Nat) (t : ByteArray) (A B : World) : Prop := (Boxed A Bt 9 (.string t) → Boxed B Bt 9 (.string t)) ∧ KeepsWalks A B
theorem EK.t {Bt : Nat} {t : ByteArray} {A B C : World} (h : EK Bt t A B) (k : EK Bt t B C) : EK Bt t A C := ⟨fun x => k.1 (h.1 x), h.2.trans k.2⟩
theorem EK.b {Bt : Nat} {t : ByteArray} {w : World} (W : World) (l : Nat) (o o' : Obj) (hl : w.heap.size ≤ l) (h : W.heap[l]? = some o) (h1 : o.isCells = false) (h2 : o.isWalk = false) : EK Bt t W (W.putObj l o') := by
  refine ⟨fun x => x.kept (grownBy_putObj' W l o') (fun e => ?_), walksK_b W l o o' hl h h1 h2⟩
  cases e
  rw [show W.heap[Bt]? = _ from x] at h
  cases h
  cases h1
theorem EK.refl (Bt : Nat) (t : ByteArray) (W : World) : EK Bt t W W := ⟨id, KeepsWalks.refl _⟩
theorem iterAt_grown (W : World) (k : Nat) (s : ByteArray) (pos : Nat) : W.grownBy (W.iterAt k s pos) (some k) :=
  ⟨rfl, rfl, rfl, by rw [Lib.iterAt_size]; exact Nat.le_refl _, fun j _ hj => Lib.iterAt_other W k j s pos (fun e => hj (by rw [e]))⟩
theorem ln_snoc {t : ByteArray} (l : List (Ln t)) (x : Ln t) : (l ++ [x]).map Subtype.val = l.map Subtype.val ++ [x.1] := by simp
set_option maxRecDepth 100000 in
set_option maxHeartbeats 4000000 in
theorem ends1_in (F : Fence) (n : Nat) (h31 : F.fn 31) (hro : F.round = none) (hn : 1 ≤ n) (l Bt : Nat) (t : ByteArray) (ht : t.size ≤ 140737488351232) (J Jx : List (Ln t) → World → Prop)
    (W : World) (hJ : AbidesFrom W.heap.size J) (hJx : AbidesFrom W.heap.size Jx)
    (hY : ∀ pre x W1, J pre W1 → pre.length < (lns t).length → YieldAt F (n - 1) Try.prog l (lnV x) W1 fun e W' =>
      (e = .returned (.bool true) ∧ J (pre ++ [x]) W' ∧ EK Bt t W1 W') ∨ (e = .returned (.bool false) ∧ Jx (pre ++ [x]) W'))
    (hb : Boxed W Bt 9 (.string t)) (h0 : J [] W) :
    CallsIn F n Try.prog 31 #[.func (.yield l) #[] #[], .pointer (some ⟨Bt, 0, none⟩)] W fun e W' => (∃ v, e = .returned v) ∧
      ((∃ ys, ys.map Subtype.val = lns t ∧ J ys W') ∨ (∃ pre, pre.map Subtype.val <+: lns t ∧ Jx pre W')) := by
  refine callsIn_of_wp Try.func31 rfl h31 ?_ hro
  simp only [Try.ntmps31, List.size_toArray, List.length_cons, List.length_nil, Nat.reduceAdd, Nat.reduceSub, Array.replicate_succ, Array.replicate_zero, List.push_toArray, List.append_toArray, List.nil_append, List.cons_append]
  have hc := hb.cell
  have hlt := hb.lt
  gi_wp2
  gi_loopw [3] (fun i wr => ∃ (pos s : Nat) (pre : List (Ln t)), i = .int .i64 (s : Int) ∧ s ≤ pos ∧ pos ≤ t.size ∧ lns t = pre.map Subtype.val ++ lnsD t (t.size - pos) s pos ∧ wr.heap[W.heap.size]? = some (.stringIter t pos) ∧ Boxed wr Bt 9 (.string t) ∧ J pre wr)
    (fun i wr => t.size - wr.iterPos W.heap.size)
  case atStart =>
    refine ⟨0, 0, [], rfl, Nat.le_refl _, Nat.zero_le _, rfl, World.iter_heap W t 0, hb.alloc _, hJ [] _ _ none h0 (World.grownBy_alloc W _ none) (fun r e => by cases e)⟩
  case round =>
    obtain ⟨pos, s, pre, rfl, hsp, hpt, hls, hit, hB, hJp⟩ := hrel
    have hcr := hB.cell
    clear hb hc
    by_cases hp : pos < t.size
    · have hnx : ∀ ty, (Instr.next (.pointer (some ⟨W.heap.size, 0, none⟩)) true ty).run Try.prog wr = _ := fun ty => Lib.run_next_any_at wr W.heap.size t pos ty hit hp
      by_cases h10 : bt t (pos : Int) = 10
      · obtain ⟨hd, hl2⟩ := lns_round10 t s pos hp h10
        rw [hd] at hnx
        dsimp only at hnx
        obtain ⟨x, hx⟩ : ∃ x : Ln t, x.1 = (s, pos) := ⟨⟨(s, pos), hsp, hpt⟩, rfl⟩
        have hlen : pre.length < (lns t).length := by rw [hls, hl2, List.length_append, List.length_map, List.length_cons]; omega
        have hit2 := Lib.iterAt_heap wr W.heap.size t pos (pos + 1) hit
        have hJ2 := hJ pre wr _ (some W.heap.size) hJp (iterAt_grown wr W.heap.size t (pos + 1)) (fun r e => by cases e; exact ⟨Nat.le_refl _, _, hit, rfl⟩)
        have hB2 := hB.kept (iterAt_grown wr W.heap.size t (pos + 1)) (fun e => by cases e; omega)
        have hYx := hY pre x _ hJ2 hlen
        rw [lnV, hx] at hYx
        dsimp only at hYx
        obtain ⟨fn, tmps, assign, body, hy, hR⟩ := hYx
        have hls2 : lns t = (pre ++ [x]).map Subtype.val ++ lnsD t (t.size - (pos + 1)) (pos + 1) (pos + 1) := by rw [ln_snoc, hls, hl2, List.append_assoc, hx]; rfl
        have HL := Aside0.mk hls2
        have HM := Aside0.mk hit
        have HR := Aside0.mk hR
        have HIT := Aside0.mk hit2
        have HB2 := Aside0.mk hB2
        have HY := Aside0.mk hY
        have HJ := Aside0.mk hJ
        clear hls hl2 hls2 hlen hx hJ2 hJp hd hit h10 hR hit2 hB2 hB hY hJ hJx h0 hsp
        gi_wp2
        refine HR.out.mono ?_
        rintro e W3 (⟨rfl, hJ3, hk3⟩ | ⟨rfl, hJx3⟩)
        · have hit3 := hk3.2.same _ _ HIT.out rfl
          gi_wp2
          go_roundw
          case rel => exact ⟨pos + 1, pos + 1, pre ++ [x], by simp, Nat.le_refl _, by omega, HL.out, hit3, hk3.1 HB2.out, hJ3⟩
          case measure =>
            simp only [World.iterPos, hit3, HM.out]
            omega
        · gi_wp2
          refine bodyPost_ret (results_none rfl _ _ _) rfl ?_
          exact ⟨⟨_, rfl⟩, .inr ⟨_, ⟨_, HL.out.symm⟩, hJx3⟩⟩
      · obtain ⟨hd1, hd2, hd3, hl2⟩ := lns_round t s pos hp h10
        have hw := decode_le t pos
        have hit2 := Lib.iterAt_heap wr W.heap.size t pos (pos + (Utf8.decode t pos).2) hit
        have hJ2 := hJ pre wr _ (some W.heap.size) hJp (iterAt_grown wr W.heap.size t (pos + (Utf8.decode t pos).2)) (fun r e => by cases e; exact ⟨Nat.le_refl _, _, hit, rfl⟩)
        have hB2 := hB.kept (iterAt_grown wr W.heap.size t (pos + (Utf8.decode t pos).2)) (fun e => by cases e; omega)
        rw [hl2] at hls
        have HL := Aside0.mk hls
        have HM := Aside0.mk hit
        have HIT := Aside0.mk hit2
        have HB2 := Aside0.mk hB2
        have HJ2 := Aside0.mk hJ2
        have H1 := Aside0.mk hd1
        have H2 := Aside0.mk hd2
        have HS := Aside0.mk hsp
        obtain ⟨c, hc32⟩ : ∃ c : Int, c = ((Utf8.decode t pos).1 : Int) := ⟨_, rfl⟩
        rw [← hc32] at hnx
        have hc10 : c ≠ 10 := by omega
        generalize (Utf8.decode t pos).2 = q at hnx HL HIT HB2 HJ2 H1 H2 ⊢
        clear hls hl2 hit hit2 hJ2 hB2 hd1 hd2 hd3 hJp hc32 hw h10 hY hJ hJx h0 hsp hB
        gi_wp2
        go_roundw
        case rel => exact ⟨pos + q, s, pre, rfl, by have := HS.out; omega, H2.out, HL.out, HIT.out, HB2.out, HJ2.out⟩
        case measure =>
          have h1 := H1.out
          simp only [World.iterPos, HIT.out, HM.out]
          omega
    · have hnx : ∀ ty, (Instr.next (.pointer (some ⟨W.heap.size, 0, none⟩)) true ty).run Try.prog wr = _ := fun ty => Lib.run_next_end_at wr W.heap.size t pos ty hit hp
      obtain rfl : pos = t.size := by omega
      by_cases hst : s < t.size
      · obtain ⟨x, hx⟩ : ∃ x : Ln t, x.1 = (s, t.size) := ⟨⟨(s, t.size), hsp, hpt⟩, rfl⟩
        rw [Nat.sub_self, lnsD, if_pos hst] at hls
        have hlen : pre.length < (lns t).length := by rw [hls, List.length_append, List.length_map, List.length_cons]; omega
        have hYx := hY pre x _ hJp hlen
        rw [lnV, hx] at hYx
        dsimp only at hYx
        obtain ⟨fn, tmps, assign, body, hy, hR⟩ := hYx
        have hls2 : (pre ++ [x]).map Subtype.val = lns t := by rw [ln_snoc, hls, hx]
        have HL := Aside0.mk hls2
        have HR := Aside0.mk hR
        clear hls hls2 hlen hx hJp hit hR hY hJ hJx h0 hsp
        gi_wp2
        refine HR.out.mono ?_
        rintro e W3 (⟨rfl, hJ3, hk3⟩ | ⟨rfl, hJx3⟩)
        · gi_wp2
          go_end0
          exact ⟨⟨_, rfl⟩, .inl ⟨_, HL.out, hJ3⟩⟩
        · gi_wp2
          go_end0
          exact ⟨⟨_, rfl⟩, .inr ⟨_, ⟨[], by rw [HL.out, List.append_nil]⟩, hJx3⟩⟩
      · rw [Nat.sub_self, lnsD, if_neg hst, List.append_nil] at hls
        have HL := Aside0.mk hls
        clear hls hit hY hJ hJx h0
        gi_wp2
        go_end0
        exact ⟨⟨_, rfl⟩, .inl ⟨_, HL.out.symm, hJp⟩⟩
/-- the iterator's contract -/
theorem ends_stops (F : Fence) (n : Nat) (h31 : F.fn 31) (hro : F.round = none) (hn : 1 ≤ n) (Bt : Nat) (t : ByteArray) (ht : t.size ≤ 140737488351232) (w : World) (hb : Boxed w Bt 9 (.string t)) :
    SeqStopsK F n Try.prog 31 #[.pointer (some ⟨Bt, 0, none⟩)] (fun x : Ln t => lnV x) (EK Bt t) (fun ys => ys.map Subtype.val = lns t) (fun pre => pre.map Subtype.val <+: lns t) (lns t).length w := fun l J Jx W hW hJ hJx hY h0 =>
  ends1_in F n h31 hro hn l Bt t ht J Jx W hJ hJx hY ((hW.block Bt hb.lt).trans hb) h0
set_option maxHeartbeats 4000000 in
theorem ends_in (F : Fence) (n : Nat) (h29 : F.fn 29) (hro : F.round = none) (t : ByteArray) (w : World) :
    CallsIn F n Try.prog 29 #[.string t] w fun e w' => e = .returned (.func (.func 31) #[] #[.pointer (some ⟨w.heap.size, 0, none⟩)]) ∧ w' = w.alloc (.cells #[.string t] 9) := by
  refine callsIn_of_wp Try.func29 rfl h29 ?_ hro
  simp only [Try.ntmps29, List.size_toArray, List.length_cons, List.length_nil, Nat.reduceAdd, Nat.reduceSub, Array.replicate_succ, Array.replicate_zero, List.push_toArray, List.append_toArray, List.nil_append, List.cons_append]
  gi_wp2
  go_ret
  exact ⟨rfl, rfl⟩
end Go.Proofs.Ytbcggfjfgoabpaa.P

end
section
/- A region of a round's body that draws its order: walked as in a plain frame. -/
namespace Go.Proofs.Ytbcggfjfgoabpaa.P
open Go Go.RowKit
set_option linter.unusedVariables false

section
variable {P : Program} {ops : Array Oper} {Q : Exit → Act → World → Prop} {md : Region.Mode} {l n : Nat}
/-- no operation is a defer statement -/
def undeferred (ops : Array Oper) : Bool := ops.toList.all fun o => match o.op with | .defer _ => false | _ => true
theorem undeferred_of (h : undeferred ops = true) : ∀ o ∈ ops.toList, ∀ c, o.op ≠ .defer c := by
  intro o ho c hc
  have := List.all_eq_true.1 h o ho
  rw [hc] at this
  cases this
theorem rows_round {row : String} {args : Array Value} {w : World} {R : Value → World → Prop} (h : Rows P row args w R) : RowsIn (Fence.wide.inRound l) n P row args w R :=
  fun c cs _ => let ⟨v, w', r, s⟩ := h c cs; ⟨v, w', r, stepsIn_wide.2 s⟩
theorem upon_round {o : Oper} {a : Act} {K K' : Act → World → Prop} (hK : ∀ a w, K a w → K' a w) (r : Result Next) (h : o.upon P a K Q r) : o.uponIn (Fence.wide.inRound l) n P a K' Q r := by
  cases r with
  | ok x w' =>
    cases x <;> simp only [Oper.upon] at h
    case value v => exact hK _ _ h
    case skip => exact hK _ _ h
    case defer d => exact hK _ _ h
    case enter f args =>
      refine ⟨(fun h0 => by cases h0), ?_⟩
      refine (CallsIn.inRound l (callsIn_wide.2 h)).mono ?_
      rintro e w'' he
      cases e with
      | returned v => exact hK _ _ he
      | panicked c => exact he
      | outgrown => exact he
    case row row args => exact ⟨(fun h0 => by cases h0), (rows_round h).mono (fun _ _ he => hK _ _ he)⟩
  | halt x w' => cases x <;> simp only [Oper.upon] at h <;> exact h
theorem op_round {i : Nat} {K K' : Act → World → Prop} {a : Act} {w : World} (hd : ∀ o ∈ ops.toList, ∀ c, o.op ≠ .defer c) (hl : ¬ LetsOut Q) (hK : ∀ a w, K a w → K' a w) (h : wpOp P ops Q i K a w) : wpOpIn (Fence.wide.inRound l) n P ops Q i K' a w := by
  unfold wpOp at h
  unfold wpOpIn
  cases ho : ops[i]? with
  | none => rw [ho] at h; exact hK _ _ h
  | some o =>
    rw [ho] at h
    dsimp only at h ⊢
    by_cases hw : Region.wanted o (yielded ops a.tmps) = true
    · rw [if_pos hw] at h ⊢
      refine ⟨fun _ _ => trivial, ?_⟩
      rw [show (Fence.wide.inRound l).round = some l from rfl, Oper.semAt_some l _ _ (hd o (by obtain ⟨h1, h2⟩ := Array.getElem?_eq_some_iff.1 ho; rw [← h2]; exact Array.getElem_mem_toList h1))]
      rcases h with h | ⟨_, h⟩
      · exact upon_round hK _ h
      · exact (hl h).elim
    · rw [if_neg hw] at h ⊢
      exact ⟨fun _ _ => trivial, hK _ _ h⟩
theorem any_round (hd : undeferred ops = true) (hl : ¬ LetsOut Q) : ∀ (fuel : Nat) (listed : Array Bool) (a : Act) (w : World), wpAny P md ops Q fuel listed a w → wpAnyIn (Fence.wide.inRound l) n P md ops Q fuel listed a w
  | 0, _, _, _, h => h
  | fuel + 1, _, _, _, h => ⟨h.1, fun i hi => op_round (undeferred_of hd) hl (fun a' w' h' => any_round hd hl fuel _ a' w' h') (h.2 i hi)⟩
end
end Go.Proofs.Ytbcggfjfgoabpaa.P

end
section
/- lines.Lines: contract by hand. -/
namespace Go.Proofs.Ytbcggfjfgoabpaa.P
open Go.RowKit Go.Shelf Go.Proofs.YtbcggfjfgoabpaaW.PrintWords Go.Proofs.YtbcggfjfgoabpaaW.PrintLast
attribute [local go_sem] Oper.semAt_some
set_option linter.unusedVariables false
set_option linter.unusedSimpArgs false

theorem info9p : (Try.prog.info? 9).map (fun i => (i.zero, i.size, i.bytes)) = some (some (.string ⟨#[]⟩), 1, 16) := by kernel_rfl
/-- strings in a row of one's own -/
def strs (t : ByteArray) (pre : List (Ln t)) : List Value := pre.map (fun x => Value.string (lnT t x.1))
theorem strs_snoc {t : ByteArray} (pre : List (Ln t)) (x : Ln t) : strs t (pre ++ [x]) = strs t pre ++ [.string (lnT t x.1)] := by simp [strs]
theorem strs_length {t : ByteArray} (pre : List (Ln t)) : (strs t pre).length = pre.length := List.length_map ..
theorem R_of_owns {W : World} {base : Nat} {v : Value} (l : List ByteArray) (h : W.ownsRow base 9 1 v l.length (l.map Value.string)) : Kd.R Kd.string 9 W base (fun _ => True) v l :=
  ⟨fun _ _ => trivial, l.map Value.string, h, by rw [List.length_map, show Kd.string.sz = 1 from rfl, Nat.mul_one], fun j p hp => by
    show ((l.map Value.string).drop (j * 1)).take 1 = [Value.string p]
    obtain ⟨hj, rfl⟩ := List.getElem?_eq_some_iff.1 hp
    rw [Nat.mul_one, List.drop_eq_getElem_cons (by rw [List.length_map]; exact hj), List.getElem_map]
    rfl⟩
theorem row_far {W : World} {base e size k : Nat} {v : Value} {xs : List Value} (hr : W.ownsRow base e size v k xs) {B : Nat} (hB : B < base) : some B ≠ v.ownBlock := by
  rcases hr.2 with ⟨rfl, _⟩ | ⟨g, cap, cur, rfl, hg, _⟩
  · simp [Value.ownBlock]
  · intro e'
    obtain rfl : B = g := by simpa [Value.ownBlock] using e'
    omega
/-- an append into a boxed variable, the boxes lying below the row -/
theorem boxed_append {W w1 : World} {n₀ b0 Bl e size k m : Nat} {t : TypeId} {v v' : Value} {xs ys : List Value} {tmp : Obj} (hv : Boxed W Bl t v) (hrow : W.ownsRow b0 e size v k xs) (hn : n₀ ≤ Bl) (hl : Bl < b0) (hb : b0 ≤ W.heap.size)
    (hown' : w1.ownsRow b0 e size v' m ys) (hgrow : (W.alloc tmp).grownBy w1 v.ownBlock) :
    Boxed w1 Bl t v ∧ Boxed (w1.setCell ⟨Bl, 0, none⟩ v') Bl t v' ∧ (w1.setCell ⟨Bl, 0, none⟩ v').ownsRow b0 e size v' m ys ∧ KeepsOthers W (w1.setCell ⟨Bl, 0, none⟩ v') ∧ Below n₀ W (w1.setCell ⟨Bl, 0, none⟩ v') ∧
      (∀ B : Nat, B ≠ Bl → B < b0 → (w1.setCell ⟨Bl, 0, none⟩ v').heap[B]? = W.heap[B]?) := by
  have hv1 : Boxed w1 Bl t v := (hv.alloc tmp).kept hgrow (row_far hrow hl)
  refine ⟨hv1, hv1.set v', hown'.kept (grownBy_setCell' w1 Bl v') (.inr (row_far hown' hl).symm), ?_, ?_, ?_⟩
  · refine ((KeepsOthers.alloc W tmp).trans (KeepsOthers.of_grownBy hgrow fun j o ej hj => ?_)).trans (KeepsOthers.setCell _ _ _)
    rcases (hrow.alloc tmp).2 with ⟨rfl, _⟩ | ⟨g, cap, cur, rfl, _, hgb, _⟩
    · simp [Value.ownBlock] at ej
    · obtain rfl : g = j := by simpa [Value.ownBlock] using ej
      rw [hgb] at hj; cases hj; rfl
  · refine (((Below.refl n₀ W).alloc (by omega) tmp).grown hgrow (by simp; omega) fun j ej => ?_).setCell (p := ⟨Bl, 0, none⟩) hn v'
    rcases hrow.2 with ⟨rfl, _⟩ | ⟨g, cap, cur, rfl, hb, _, _⟩
    · simp [Value.ownBlock] at ej
    · obtain rfl : g = j := by simpa [Value.ownBlock] using ej
      omega
  · intro B hne hB
    exact (Below.heap_setCell w1 ⟨Bl, 0, none⟩ v' B hne).trans ((hgrow.block B (by simp; omega) (row_far hrow hB)).trans (Below.heap_alloc W tmp B (by omega)))
theorem ownsRow_lower {W : World} {base base' e size k : Nat} {v : Value} {xs : List Value} (hr : W.ownsRow base e size v k xs) (hb : base' ≤ base) : W.ownsRow base' e size v k xs :=
  ⟨hr.1, hr.2.imp id (fun ⟨g, cap, cur, h1, h2, h3⟩ => ⟨g, cap, cur, h1, by omega, h3⟩)⟩
/-- the boxed variable, and what it holds -/
def Held (Bl b0 : Nat) (xs : List Value) (W : World) : Prop := ∃ v, Boxed W Bl 34 v ∧ W.ownsRow b0 9 1 v xs.length xs
theorem held_own {β : Type} (Bl b0 : Nat) (f : β → List Value) : Own (fun s W => Held Bl b0 (f s) W) := by
  have h := holdsRow_own b0 Bl 34 9 1 (fun s : β => (f s).length) f (fun _ _ => True)
  rintro s A B row ⟨v, h1, h2⟩ hg hr
  obtain ⟨v, h1, h2, _⟩ := h s A B row ⟨v, h1, h2, trivial⟩ hg hr
  exact ⟨v, h1, h2⟩
theorem size_own {β : Type} (k : Nat) : Own (fun (_ : β) W => k ≤ W.heap.size) := fun _ _ _ _ hs hg _ => Nat.le_trans hs hg.size
set_option maxRecDepth 100000 in
set_option maxHeartbeats 4000000 in
theorem Lines_in (t : ByteArray) (w : World) (ht : t.size ≤ 4194304) :
    CallsIn Fence.wide 9 Try.prog 12 #[.string t] w fun e W' => ∃ v, e = .returned v ∧ W'.ownsRow w.heap.size 9 1 v (lns t).length (((lns t).map (lnT t)).map Value.string) ∧ Below w.heap.size w W' := by
  obtain ⟨i0, hi, hz0, hz1, hz2⟩ := info_parts info9p
  have hro : Fence.wide.round = none := rfl
  have hN : (lns t).length ≤ t.size + 1 := lnsD_length t t.size 0 0
  refine callsIn_of_wp_marks Try.func12 rfl trivial ?_ hro
  simp only [Try.ntmps12, List.size_toArray, List.length_cons, List.length_nil, Nat.reduceAdd, Nat.reduceSub, Array.replicate_succ, Array.replicate_zero, List.push_toArray, List.append_toArray, List.nil_append, List.cons_append]
  gi_wp2_with (refine ⟨trivial, ?_⟩; gi_at_call 29; refine (ends_in Fence.wide 8 trivial hro _ _).mono ?_; rintro e w' ⟨rfl, rfl⟩)
  have b1 := ((Boxed.new w 9 (.string t)).alloc (.cells #[.slice none 0 0] 34)).alloc (.cells #[.string t] 9)
  have b2 := (Boxed.new (w.alloc (.cells #[.string t] 9)) 34 (.slice none 0 0)).alloc (.cells #[.string t] 9)
  have b3 := Boxed.new ((w.alloc (.cells #[.string t] 9)).alloc (.cells #[.slice none 0 0] 34)) 9 (.string t)
  have hB0 : Below w.heap.size w (((w.alloc (.cells #[.string t] 9)).alloc (.cells #[.slice none 0 0] 34)).alloc (.cells #[.string t] 9)) := (((Below.refl _ w).alloc (Nat.le_refl _) _).alloc (by simp) _).alloc (by simp; omega) _
  rw [World.size_alloc] at b2
  rw [World.size_alloc, World.size_alloc] at b3
  have hsz : (((w.alloc (.cells #[.string t] 9)).alloc (.cells #[.slice none 0 0] 34)).alloc (.cells #[.string t] 9)).heap.size = w.heap.size + 1 + 1 + 1 := by simp
  generalize ((w.alloc (.cells #[.string t] 9)).alloc (.cells #[.slice none 0 0] 34)).alloc (.cells #[.string t] 9) = W0 at b1 b2 b3 hB0 hsz ⊢
  refine wpIn_rangeFunc_ownG hro (by decide) (gf := 31) (lb := #[.pointer (some ⟨w.heap.size + 1 + 1, 0, none⟩)]) rfl trivial (enters_of Try.func31 (by kernel_rfl) rfl)
    (ends_stops Fence.wide 8 trivial hro (by decide) (w.heap.size + 1 + 1) t (by omega) W0 b3) EK.t EK.b (Below.refl _ _) (fun _ => rfl)
    (fun pre W => (Held (w.heap.size + 1) (w.heap.size + 1 + 1 + 1) (strs t pre) W ∧ Boxed W w.heap.size 9 (.string t)) ∧ Below w.heap.size w W ∧ w.heap.size + 1 + 1 + 1 ≤ W.heap.size)
    (fun _ _ _ => False)
    (OwnFrom.and (OwnFrom.and ((held_own _ _ _).from _) ((boxed_own _ _ _).from _)) (OwnFrom.and (ownFrom_below (Nat.le_refl _) (by omega)) ((size_own _).from _)))
    (fun _ _ _ _ _ hs _ _ => hs)
    ⟨⟨⟨_, b2, World.ownsRow_nil _ _ _ _⟩, b1⟩, hB0, Nat.le_of_eq hsz.symm⟩
    (fun x => { tmps := #[.string t, .pointer (some ⟨w.heap.size, 0, none⟩), .slice none 0 0, .pointer (some ⟨w.heap.size + 1, 0, none⟩), .int .i64 (x.1.1 : Int), .int .i64 (x.1.2 : Int), .string t, .func (.func 31) #[] #[.pointer (some ⟨w.heap.size + 1 + 1, 0, none⟩)], .int .i64 (x.1.1 : Int), .int .i64 (x.1.2 : Int), undef, undef, undef, undef, undef, undef, undef, undef], defers := [] }) ?assign ?body ?done ?stop
  case assign =>
    intro l x W K hK
    dsimp only [lnV]
    gi_wp2
    exact hK
  case body =>
    rintro l pre x W ⟨⟨⟨v, hv, hrow⟩, hbt⟩, hB, hsW⟩ hlt
    have hx2 := x.2
    obtain ⟨⟨x1, x2⟩, hxx⟩ := x
    dsimp only at hx2
    obtain ⟨hx0, hx2⟩ := hx2
    have hc1 := hbt.cell
    have hc2 := hv.cell
    have hc3 := (hv.alloc (.cells #[.string (t.extract x1 x2)] 9)).cell
    have i1 : (x1 : Int) ≤ (x2 : Int) := by omega
    have i2 : (x2 : Int) ≤ (t.size : Int) := by omega
    obtain ⟨xs, hxs⟩ : ∃ xs, xs = strs t pre := ⟨_, rfl⟩
    rw [← hxs] at hrow
    have HXE := Aside0.mk hxs.symm
    have HXS := Aside0.mk (show xs.length + 1 ≤ 4194305 by rw [hxs, strs_length]; omega)
    clear hxs
    have HV := Aside0.mk hv
    have HR := Aside0.mk hrow
    have HBT := Aside0.mk hbt
    have HB := Aside0.mk hB
    have HSZ0 := Aside0.mk (show w.heap.size + 1 + 1 + 1 ≤ W.heap.size from hsW)
    have HSZ := Aside0.mk (show w.heap.size + 1 + 1 + 1 ≤ (W.alloc (.cells #[.string (t.extract x1 x2)] 9)).heap.size by have := HSZ0.out; simp; omega)
    clear hv hrow hbt hB
    refine wpIn_block ?_
    refine wpIn_region_any (by kernel_rfl) (any_round (by kernel_rfl) (fun ⟨_, _, h⟩ => h) _ _ _ _ ?_)
    change wpAny _ _ _ _ _ _ _ (World.drew _)
    refine wpAny_take (i := 2) (v := .int .i64 (x1 : Int)) rfl (by kernel_rfl) (by kernel_rfl) (by kernel_rfl) (fun _ _ _ h => h) (Or.inl ⟨by rfl, by (intro w; go_simp)⟩) ?_
    change wpAny _ _ _ _ _ _ (Act.put _ (some 12) _) _
    try simp only [Act.put, List.setIfInBounds_toArray, List.set_cons_zero, List.set_cons_succ]
    refine wpAny_take (i := 3) (v := .int .i64 (x2 : Int)) rfl (by kernel_rfl) (by kernel_rfl) (by kernel_rfl) (fun _ _ _ h => h) (Or.inl ⟨by rfl, by (intro w; go_simp)⟩) ?_
    change wpAny _ _ _ _ _ _ (Act.put _ (some 13) _) _
    try simp only [Act.put, List.setIfInBounds_toArray, List.set_cons_zero, List.set_cons_succ]
    refine wpAny_ready (rs := [0, 1]) (by kernel_rfl) (by simp) ?_
    refine AllReady.cons rfl (fun K hK => ?_) (AllReady.cons rfl (fun K hK => ?_) AllReady.nil)
    · go_simp
      refine hK _ _ ?_
      clear hK K
      try simp only [Act.put, List.setIfInBounds_toArray, List.set_cons_zero, List.set_cons_succ]
      refine wpAny_ready (rs := [1]) (by kernel_rfl) (by simp) ?_
      refine AllReady.cons rfl (fun K hK => ?_) AllReady.nil
      go_simp
      refine hK _ _ ?_
      clear hK K
      try simp only [Act.put, List.setIfInBounds_toArray, List.set_cons_zero, List.set_cons_succ]
      refine wpAny_take (i := 4) (v := .string (t.extract x1 x2)) rfl (by kernel_rfl) (by kernel_rfl) (by kernel_rfl) (fun _ _ _ h => h) (Or.inl ⟨by rfl, by (intro w; go_simp)⟩) ?_
      change wpAny _ _ _ _ _ _ (Act.put _ (some 14) _) _
      try simp only [Act.put, List.setIfInBounds_toArray, List.set_cons_zero, List.set_cons_succ]
      refine wpAny_ready (rs := [5]) (by kernel_rfl) (by simp) ?_
      refine AllReady.cons rfl (fun K hK => ?_) AllReady.nil
      go_simp
      refine hK _ _ ?_
      clear hK K
      try simp only [Act.put, List.setIfInBounds_toArray, List.set_cons_zero, List.set_cons_succ]
      refine wpAny_ready (rs := [6]) (by kernel_rfl) (by simp) ?_
      refine AllReady.cons rfl (fun K hK => ?_) AllReady.nil
      rw [if_pos (by rfl)]
      refine wp_append_own _ (.tmp 10) (.tmp 15) 34 rfl (w.heap.size + 1 + 1 + 1) 9 i0 (.string ⟨#[]⟩) 1 16 Try.underlying34 hi hz0 hz1 hz2 rfl (by decide) v xs.length xs rfl (HR.out.alloc _) ⟨W.heap.size, 0, none⟩ 1 1 [.string (t.extract x1 x2)] rfl rfl (cell_one_new _ _ _) (by simp [Value.oneCell']) (by have := HXS.out; simp only [maxLen]; omega) (by have := HXS.out; omega) (HSZ.out) ?_
      intro v' w1 hown' hgrow _
      obtain ⟨g', cap', rfl⟩ := ownsRow_succ hown'
      have HA := Aside0.mk (boxed_append (n₀ := w.heap.size) HV.out HR.out (by omega) (by omega) (by have := HSZ0.out; omega) hown' ⟨hgrow.os, hgrow.tape, hgrow.output, hgrow.size, hgrow.block⟩)
      have hd1 := HA.out.1.cell
      have hd2 := HA.out.1.frozen
      clear hown' hgrow
      refine hK _ _ ?_
      clear hK K
      change wpAny _ _ _ _ _ _ (Act.put _ (some 16) _) _
      try simp only [Act.put, List.setIfInBounds_toArray, List.set_cons_zero, List.set_cons_succ]
      refine wpAny_ready (rs := [7]) (by kernel_rfl) (by simp) ?_
      refine AllReady.cons rfl (fun K hK => ?_) AllReady.nil
      go_simp
      refine hK _ _ ?_
      clear hK K
      refine wpAny_done (by kernel_rfl) ?_ _
      obtain ⟨a1, a2, a3, a4, a5, a6⟩ := HA.out
      refine ⟨a4.from _, ⟨fun hb => (a6 _ (by omega) (by omega)).trans hb, a4.walks⟩, ⟨⟨_, a2, ?_⟩, (a6 _ (by omega) (by omega)).trans HBT.out⟩, HB.out.trans a5, Nat.le_trans HSZ0.out a4.size⟩
      rw [strs_snoc, HXE.out]
      simpa [lnT] using a3
    · go_simp
      refine hK _ _ ?_
      clear hK K
      try simp only [Act.put, List.setIfInBounds_toArray, List.set_cons_zero, List.set_cons_succ]
      refine wpAny_take (i := 4) (v := .string (t.extract x1 x2)) rfl (by kernel_rfl) (by kernel_rfl) (by kernel_rfl) (fun _ _ _ h => h) (Or.inl ⟨by rfl, by (intro w; go_simp)⟩) ?_
      change wpAny _ _ _ _ _ _ (Act.put _ (some 14) _) _
      try simp only [Act.put, List.setIfInBounds_toArray, List.set_cons_zero, List.set_cons_succ]
      refine wpAny_ready (rs := [0, 5]) (by kernel_rfl) (by simp) ?_
      refine AllReady.cons rfl (fun K hK => ?_) (AllReady.cons rfl (fun K hK => ?_) AllReady.nil)
      · go_simp
        refine hK _ _ ?_
        clear hK K
        try simp only [Act.put, List.setIfInBounds_toArray, List.set_cons_zero, List.set_cons_succ]
        refine wpAny_ready (rs := [5]) (by kernel_rfl) (by simp) ?_
        refine AllReady.cons rfl (fun K hK => ?_) AllReady.nil
        go_simp
        refine hK _ _ ?_
        clear hK K
        try simp only [Act.put, List.setIfInBounds_toArray, List.set_cons_zero, List.set_cons_succ]
        refine wpAny_ready (rs := [6]) (by kernel_rfl) (by simp) ?_
        refine AllReady.cons rfl (fun K hK => ?_) AllReady.nil
        rw [if_pos (by rfl)]
        refine wp_append_own _ (.tmp 10) (.tmp 15) 34 rfl (w.heap.size + 1 + 1 + 1) 9 i0 (.string ⟨#[]⟩) 1 16 Try.underlying34 hi hz0 hz1 hz2 rfl (by decide) v xs.length xs rfl (HR.out.alloc _) ⟨W.heap.size, 0, none⟩ 1 1 [.string (t.extract x1 x2)] rfl rfl (cell_one_new _ _ _) (by simp [Value.oneCell']) (by have := HXS.out; simp only [maxLen]; omega) (by have := HXS.out; omega) (HSZ.out) ?_
        intro v' w1 hown' hgrow _
        obtain ⟨g', cap', rfl⟩ := ownsRow_succ hown'
        have HA := Aside0.mk (boxed_append (n₀ := w.heap.size) HV.out HR.out (by omega) (by omega) (by have := HSZ0.out; omega) hown' ⟨hgrow.os, hgrow.tape, hgrow.output, hgrow.size, hgrow.block⟩)
        have hd1 := HA.out.1.cell
        have hd2 := HA.out.1.frozen
        clear hown' hgrow
        refine hK _ _ ?_
        clear hK K
        change wpAny _ _ _ _ _ _ (Act.put _ (some 16) _) _
        try simp only [Act.put, List.setIfInBounds_toArray, List.set_cons_zero, List.set_cons_succ]
        refine wpAny_ready (rs := [7]) (by kernel_rfl) (by simp) ?_
        refine AllReady.cons rfl (fun K hK => ?_) AllReady.nil
        go_simp
        refine hK _ _ ?_
        clear hK K
        refine wpAny_done (by kernel_rfl) ?_ _
        obtain ⟨a1, a2, a3, a4, a5, a6⟩ := HA.out
        refine ⟨a4.from _, ⟨fun hb => (a6 _ (by omega) (by omega)).trans hb, a4.walks⟩, ⟨⟨_, a2, ?_⟩, (a6 _ (by omega) (by omega)).trans HBT.out⟩, HB.out.trans a5, Nat.le_trans HSZ0.out a4.size⟩
        rw [strs_snoc, HXE.out]
        simpa [lnT] using a3
      · go_simp
        refine hK _ _ ?_
        clear hK K
        try simp only [Act.put, List.setIfInBounds_toArray, List.set_cons_zero, List.set_cons_succ]
        refine wpAny_ready (rs := [0]) (by kernel_rfl) (by simp) ?_
        refine AllReady.cons rfl (fun K hK => ?_) AllReady.nil
        go_simp
        refine hK _ _ ?_
        clear hK K
        try simp only [Act.put, List.setIfInBounds_toArray, List.set_cons_zero, List.set_cons_succ]
        refine wpAny_ready (rs := [6]) (by kernel_rfl) (by simp) ?_
        refine AllReady.cons rfl (fun K hK => ?_) AllReady.nil
        rw [if_pos (by rfl)]
        refine wp_append_own _ (.tmp 10) (.tmp 15) 34 rfl (w.heap.size + 1 + 1 + 1) 9 i0 (.string ⟨#[]⟩) 1 16 Try.underlying34 hi hz0 hz1 hz2 rfl (by decide) v xs.length xs rfl (HR.out.alloc _) ⟨W.heap.size, 0, none⟩ 1 1 [.string (t.extract x1 x2)] rfl rfl (cell_one_new _ _ _) (by simp [Value.oneCell']) (by have := HXS.out; simp only [maxLen]; omega) (by have := HXS.out; omega) (HSZ.out) ?_
        intro v' w1 hown' hgrow _
        obtain ⟨g', cap', rfl⟩ := ownsRow_succ hown'
        have HA := Aside0.mk (boxed_append (n₀ := w.heap.size) HV.out HR.out (by omega) (by omega) (by have := HSZ0.out; omega) hown' ⟨hgrow.os, hgrow.tape, hgrow.output, hgrow.size, hgrow.block⟩)
        have hd1 := HA.out.1.cell
        have hd2 := HA.out.1.frozen
        clear hown' hgrow
        refine hK _ _ ?_
        clear hK K
        change wpAny _ _ _ _ _ _ (Act.put _ (some 16) _) _
        try simp only [Act.put, List.setIfInBounds_toArray, List.set_cons_zero, List.set_cons_succ]
        refine wpAny_ready (rs := [7]) (by kernel_rfl) (by simp) ?_
        refine AllReady.cons rfl (fun K hK => ?_) AllReady.nil
        go_simp
        refine hK _ _ ?_
        clear hK K
        refine wpAny_done (by kernel_rfl) ?_ _
        obtain ⟨a1, a2, a3, a4, a5, a6⟩ := HA.out
        refine ⟨a4.from _, ⟨fun hb => (a6 _ (by omega) (by omega)).trans hb, a4.walks⟩, ⟨⟨_, a2, ?_⟩, (a6 _ (by omega) (by omega)).trans HBT.out⟩, HB.out.trans a5, Nat.le_trans HSZ0.out a4.size⟩
        rw [strs_snoc, HXE.out]
        simpa [lnT] using a3
  case done =>
    rintro D ys W hD hys ⟨⟨⟨v, hv, hrow⟩, hbt⟩, hB, hsW⟩ hK
    have hc := hv.cell
    gi_wp2
    refine ⟨by simp, .inl ⟨_, _, rfl, run_takeDeferred hK, ?_⟩⟩
    refine ⟨_, results_tmp rfl _ _ _, v, rfl, ?_, hB.trans (belowK_b (w := w) (Nat.le_refl _) W D _ _ (by omega) hK rfl rfl)⟩
    have h9 := ownsRow_putObj hrow (.deferred none) hK rfl
    have e1 : strs t ys = ((lns t).map (lnT t)).map Value.string := by rw [← hys, List.map_map, List.map_map]; rfl
    have e2 : (strs t ys).length = (lns t).length := by rw [strs_length, ← hys, List.length_map]
    rw [e2, e1] at h9
    exact ownsRow_lower h9 (by omega)
  case stop =>
    rintro D c pre W _ _ h _
    exact h.elim
theorem map_str (l : List (Nat × Nat)) (t : ByteArray) : (l.map (lnT t)).length = l.length := List.length_map ..
/-- what Lines answers -/
def lines_Lines.f (t : ByteArray) : Option (List ByteArray) := if t.size ≤ 4194304 then some ((lns t).map (lnT t)) else none
theorem lines_Lines.calls (a0 : ByteArray) (r : List ByteArray) (w : World) (h : lines_Lines.f a0 = some r) :
    Calls Try.prog 12 #[.string a0] w fun e w' => ∃ v0_ : Value, e = .returned (v0_) ∧ Kd.R Kd.string 9 w' w.heap.size (fun _ => True) v0_ r ∧ Below w.heap.size w w' := by
  unfold lines_Lines.f at h
  by_cases ht : a0.size ≤ 4194304
  · rw [if_pos ht] at h
    injection h with h
    subst h
    refine (callsIn_wide.1 (Lines_in a0 w ht)).mono ?_
    rintro e W' ⟨v, rfl, ho, hB⟩
    refine ⟨v, rfl, R_of_owns _ ?_, hB⟩
    rw [map_str]
    exact ho
  · rw [if_neg ht] at h
    cases h
end Go.Proofs.Ytbcggfjfgoabpaa.P

end
section
/- Loops over iterators that stand in an ordinary loop: their marks among a call's deferred calls. -/
namespace Go.Proofs.Ytbcggfjfgoabpaa.P
open Go.RowKit Go.Shelf Go.Proofs.YtbcggfjfgoabpaaW.PrintWords Go.Proofs.YtbcggfjfgoabpaaW.PrintLast
set_option linter.unusedVariables false

/-- marks of loops over iterators -/
def marks (Ds : List Nat) : List Deferred := Ds.map (fun D => { target := .collected D, args := #[] })
theorem marks_cons (D : Nat) (Ds : List Nat) : ({ target := .collected D, args := #[] } : Deferred) :: marks Ds = marks (D :: Ds) := rfl
/-- no round has deferred a call -/
def Marked (Ds : List Nat) (W : World) : Prop := Ds.Nodup ∧ ∀ D ∈ Ds, W.heap[D]? = some (.deferred (some []))
theorem Marked.nil (W : World) : Marked [] W := ⟨List.nodup_nil, fun _ h => absurd h (List.not_mem_nil)⟩
theorem Marked.cons {Ds : List Nat} {W : World} {D : Nat} (h : Marked Ds W) (hD : W.heap[D]? = some (.deferred (some []))) (hn : D ∉ Ds) : Marked (D :: Ds) W :=
  ⟨List.nodup_cons.2 ⟨hn, h.1⟩, fun D' h' => by
    rcases List.mem_cons.1 h' with rfl | h'
    · exact hD
    · exact h.2 D' h'⟩
theorem Marked.same {Ds : List Nat} {W W' : World} (h : Marked Ds W) (hs : ∀ D ∈ Ds, W'.heap[D]? = W.heap[D]?) : Marked Ds W' := ⟨h.1, fun D hD => (hs D hD).trans (h.2 D hD)⟩
theorem Marked.lt {Ds : List Nat} {W : World} (h : Marked Ds W) {D : Nat} (hD : D ∈ Ds) : D < W.heap.size := (Array.getElem?_eq_some_iff.1 (h.2 D hD)).1
/-- the marks' blocks alone have turned -/
def Shut (Ds : List Nat) (W W' : World) : Prop := W'.heap.size = W.heap.size ∧ W'.os = W.os ∧ W'.tape = W.tape ∧ W'.output = W.output ∧ ∀ k, k ∉ Ds → W'.heap[k]? = W.heap[k]?
theorem Shut.grown {Ds : List Nat} {W W' : World} (h : Shut Ds W W') : ∀ {n₀ : Nat} {w : World}, Below n₀ w W → (∀ D ∈ Ds, n₀ ≤ D) → n₀ ≤ W.heap.size → Below n₀ w W' := by
  intro n₀ w hb hD hn
  obtain ⟨h1, h2, h3, h4, h5⟩ := h
  exact hb.trans ⟨h2, h3, h4, by omega, fun k hk => h5 k (fun h => by have := hD k h; omega)⟩
theorem leaves_marks {F : Fence} {n : Nat} {P : Program} {fn : Func} {tmps : Array Value} {R : Ending → World → Prop} : ∀ (Ds : List Nat) (W : World), Marked Ds W →
    (∀ W', Shut Ds W W' → LeavesIn F n P fn tmps R [] .returning W') → LeavesInM F n P fn tmps R (marks Ds) .returning W := by
  intro Ds
  induction Ds with
  | nil => intro W hM h; exact h W ⟨rfl, rfl, rfl, rfl, fun _ _ => rfl⟩
  | cons D Ds ih =>
    intro W hM h
    obtain ⟨hn, hM2⟩ := hM
    have hD := hM2 D (List.mem_cons_self ..)
    refine ⟨by simp, .inl ⟨D, _, rfl, run_takeDeferred hD, ih _ ⟨(List.nodup_cons.1 hn).2, fun D' h' => ?_⟩ fun W' hS => h W' ?_⟩⟩
    · rw [World.putObj_heap_other (fun e => (List.nodup_cons.1 hn).1 (by rw [← e]; exact h'))]
      exact hM2 D' (List.mem_cons_of_mem _ h')
    · obtain ⟨s1, s2, s3, s4, s5⟩ := hS
      refine ⟨by rw [s1]; simp [World.putObj], by rw [s2]; rfl, by rw [s3]; rfl, by rw [s4]; rfl, fun k hk => ?_⟩
      rw [s5 k (fun h => hk (List.mem_cons_of_mem _ h)), World.putObj_heap_other (fun e => hk (by rw [e]; exact List.mem_cons_self ..))]
/-- all that lay in w lies in X as it lay, but for two boxes, b and the next -/
def But2 (b : Nat) (w X : World) : Prop := X.os = w.os ∧ X.tape = w.tape ∧ X.output = w.output ∧ w.heap.size ≤ X.heap.size ∧ ∀ k, k < w.heap.size → k ≠ b → k ≠ b + 1 → X.heap[k]? = w.heap[k]?
theorem But2.refl (b : Nat) (w : World) : But2 b w w := ⟨rfl, rfl, rfl, Nat.le_refl _, fun _ _ _ _ => rfl⟩
theorem but2_own {β : Type} (b : Nat) (w : World) : OwnFrom w.heap.size (fun (_ : β) X => But2 b w X) := fun _ X Y row hs hg hr => by
  obtain ⟨h1, h2, h3, h4, h5⟩ := hs
  refine ⟨hg.os.trans h1, hg.tape.trans h2, hg.output.trans h3, Nat.le_trans h4 hg.size, fun k hk e1 e2 => (hg.block k (by omega) (fun e => ?_)).trans (h5 k hk e1 e2)⟩
  have := (hr k e.symm).1
  omega
theorem But2.set {b : Nat} {w X : World} (h : But2 b w X) (c : Nat) (hc : c = b ∨ c = b + 1) (v : Value) : But2 b w (X.setCell ⟨c, 0, none⟩ v) := by
  obtain ⟨h1, h2, h3, h4, h5⟩ := h
  exact ⟨h1, h2, h3, by simpa using h4, fun k hk e1 e2 => (Below.heap_setCell X ⟨c, 0, none⟩ v k (by rcases hc with rfl | rfl <;> assumption)).trans (h5 k hk e1 e2)⟩
theorem But2.below {b n₀ : Nat} {w X : World} (h : But2 b w X) (hb : n₀ ≤ b) (hw : b ≤ w.heap.size) : Below n₀ w X :=
  ⟨h.1, h.2.1, h.2.2.1, h.2.2.2.1, fun k hk => h.2.2.2.2 k (by omega) (by omega) (by omega)⟩
end Go.Proofs.Ytbcggfjfgoabpaa.P

end
section
/-
  DERIVED: THE SHELF's CONTRACTS AT THIS DUMP, IN PLAIN WORDS (tools/lay-plain.mjs out of 'TryShelf.lean', which tools/lay-shelf.mjs wrote): THE SAME DECLARATIONS UNDER THE SAME NAMES: 'import', 'namespace', 'open', 'def', 'theorem' AND NOTHING ELSE: no command of the shelf's: FOR A HAND-IN. Each laying: the table of numbers ('.._ren') and one theorem, a field a fact of the dump's own or the kernel's comparison; each contract: ONE APPLICATION.
-/
namespace Go.Proofs
open Go.Shelf
def Try.lays189_ren : Go.Shelf.Ren := ⟨fun | 189 => 30 | 125 => 33 | 257 => 32 | 128 => 43 | 129 => 44 | 294 => 34 | 295 => 35 | 296 => 36 | 297 => 37 | 298 => 38 | 299 => 39 | 216 => 40 | 300 => 41 | 301 => 42 | 328 => 45 | 329 => 46 | 330 => 47 | 331 => 48 | 332 => 49 | 215 => 50 | 343 => 51 | n => n, fun | 28 => 42 | 3 => 3 | 46 => 66 | 0 => 0 | 51 => 76 | 53 => 78 | 4 => 4 | 183 => 69 | 182 => 68 | 131 => 73 | 5 => 5 | 9 => 9 | 218 => 79 | 222 => 83 | 228 => 86 | 229 => 87 | n => n, fun | n => n⟩
theorem Try.lays189 : Go.Proofs.Lays.n189 Try.prog Try.lays189_ren := {
  mixed := by kernel_rfl
  f125 := Try.func33.trans (congrArg some (by kernel_rfl))
  f128 := Try.func43.trans (congrArg some (by kernel_rfl))
  f129 := Try.func44.trans (congrArg some (by kernel_rfl))
  f189 := Try.func30.trans (congrArg some (by kernel_rfl))
  f215 := Try.func50.trans (congrArg some (by kernel_rfl))
  f216 := Try.func40.trans (congrArg some (by kernel_rfl))
  f257 := Try.func32.trans (congrArg some (by kernel_rfl))
  f294 := Try.func34.trans (congrArg some (by kernel_rfl))
  f295 := Try.func35.trans (congrArg some (by kernel_rfl))
  f296 := Try.func36.trans (congrArg some (by kernel_rfl))
  f297 := Try.func37.trans (congrArg some (by kernel_rfl))
  f298 := Try.func38.trans (congrArg some (by kernel_rfl))
  f299 := Try.func39.trans (congrArg some (by kernel_rfl))
  f300 := Try.func41.trans (congrArg some (by kernel_rfl))
  f301 := Try.func42.trans (congrArg some (by kernel_rfl))
  f328 := Try.func45.trans (congrArg some (by kernel_rfl))
  f329 := Try.func46.trans (congrArg some (by kernel_rfl))
  f330 := Try.func47.trans (congrArg some (by kernel_rfl))
  f331 := Try.func48.trans (congrArg some (by kernel_rfl))
  f332 := Try.func49.trans (congrArg some (by kernel_rfl))
  f343 := Try.func51.trans (congrArg some (by kernel_rfl))
  t0 := Try.underlying0
  a0 := Try.isAgg0
  z0 := Try.sizeOf0
  v0 := Try.zeroValue0
  t3 := Try.underlying3
  a3 := Try.isAgg3
  z3 := Try.sizeOf3
  v3 := Try.zeroValue3
  t4 := Try.underlying4
  a4 := Try.isAgg4
  z4 := Try.sizeOf4
  v4 := Try.zeroValue4
  t5 := Try.underlying5
  a5 := Try.isAgg5
  z5 := Try.sizeOf5
  v5 := Try.zeroValue5
  t9 := Try.underlying9
  a9 := Try.isAgg9
  z9 := Try.sizeOf9
  v9 := Try.zeroValue9
  t28 := Try.underlying42
  a28 := Try.isAgg42
  z28 := Try.sizeOf42
  v28 := Try.zeroValue42
  t46 := Try.underlying66
  a46 := Try.isAgg66
  z46 := Try.sizeOf66
  v46 := Try.zeroValue66
  t51 := Try.underlying76
  a51 := Try.isAgg76
  z51 := Try.sizeOf76
  v51 := Try.zeroValue76
  t53 := Try.underlying78
  a53 := Try.isAgg78
  z53 := Try.sizeOf78
  v53 := Try.zeroValue78
  t131 := Try.underlying73
  a131 := Try.isAgg73
  z131 := Try.sizeOf73
  v131 := Try.zeroValue73
  t182 := Try.underlying68
  a182 := Try.isAgg68
  z182 := Try.sizeOf68
  v182 := Try.zeroValue68
  t183 := Try.underlying69
  a183 := Try.isAgg69
  z183 := Try.sizeOf69
  v183 := Try.zeroValue69
  t218 := Try.underlying79
  a218 := Try.isAgg79
  z218 := Try.sizeOf79
  v218 := Try.zeroValue79
  t222 := Try.underlying83
  a222 := Try.isAgg83
  z222 := Try.sizeOf83
  v222 := Try.zeroValue83
  t228 := Try.underlying86
  a228 := Try.isAgg86
  z228 := Try.sizeOf86
  v228 := Try.zeroValue86
  t229 := Try.underlying87
  a229 := Try.isAgg87
  z229 := Try.sizeOf87
  v229 := Try.zeroValue87 }
open Go.Sort Go.RowKit in
theorem Try.slices_Sort_int (blk off cap : Nat) (zs : List Int) (w : World) (hH : Holds (Value.int .i64) w blk off zs.toArray) (hblk : blk < w.heap.size) (hsz : zs.length < 4611686018427387904) :
    Calls Try.prog 30 #[.slice (some ⟨blk, off, none⟩) zs.length cap] w fun e w' =>
      e = .returned (.tuple #[]) ∧ ∃ n os, w' = grow (putRow (Value.int .i64) (Sort.ahead w n) blk off (zs.mergeSort fun x y => decide (x ≤ y)).toArray) os := Any.slices_Sort_int Try.lays189 blk off cap zs w hH hblk hsz
open Go.RowKit Go.Sort in
/-- .. and plain. (LAID: no walk: one application.) -/
theorem Try.slices_Sort_int_none (p : Option Addr) (cap : Nat) (w : World) :
    Calls Try.prog 30 #[.slice p 0 cap] w fun e w' => e = .returned (.tuple #[]) ∧ w' = w := Any.slices_Sort_int_none Try.lays189 p cap w
end Go.Proofs

end
section
/- slices.Sort at ints, in place, in the print's form: out of the shelf's contract. -/
namespace Go.Proofs.Ytbcggfjfgoabpaa.P
open Go.RowKit Go.Sort Go.Proofs.YtbcggfjfgoabpaaW.PrintWords Go.Proofs.YtbcggfjfgoabpaaW.PrintLast Go.Proofs.YtbcggfjfgoabpaaW.PrintMore
set_option linter.unusedVariables false

section
variable {α : Type} [Inhabited α] {enc : α → Value} {w : World} {base g cap n : Nat} {e : TypeId} {os : Array Obj} {cur : Array Value} {ss ts : List α}
theorem holdsE_of_block (hb : w.heap[g]? = some (.cells cur e (0, 0))) (ht : cur.toList.take ss.length = ss.map enc) : Holds enc w g 0 ss.toArray := by
  intro j hj
  have hj' : j < ss.length := by simpa using hj
  refine ⟨?_, by simp [World.frozen?, hb]⟩
  have h1 : (cur.toList.take ss.length)[j]? = (ss.map enc)[j]? := by rw [ht]
  rw [List.getElem?_take_of_lt hj'] at h1
  simp only [World.cell?, hb, Nat.zero_add]
  simp only [Option.isSome_none, Bool.false_eq_true, if_false]
  rw [← Array.getElem?_toList, h1]
  simp [hj']
theorem heapE_sorted {fr : Nat × Nat} (d : Array α) (hb : w.heap[g]? = some (.cells cur e fr)) :
    (grow (putRow enc (Sort.ahead w n) g 0 d) os).heap[g]? = some (.cells (putCells enc 0 d cur) e fr) := by
  have hg : g < w.heap.size := (Array.getElem?_eq_some_iff.1 hb).1
  rw [heap_grow_old _ _ (by simpa using hg)]
  simp [putRow, mapBlock, Sort.ahead, Array.getElem?_modify, hb, onCells]
theorem grownByE_sorted (d : Array α) : w.grownBy (grow (putRow enc (Sort.ahead w n) g 0 d) os) (some g) := by
  refine ⟨rfl, rfl, rfl, by simp, fun k hk hne => ?_⟩
  rw [heap_grow_old _ _ (by simpa using hk)]
  have : g ≠ k := fun e => hne (by rw [e])
  simp [putRow, mapBlock, Sort.ahead, Array.getElem?_modify, this]
theorem takeE_putCells (cur : Array Value) (ts : List α) (h : ts.length ≤ cur.size) : (putCells enc 0 ts.toArray cur).toList.take ts.length = ts.map enc := by
  apply List.ext_getElem?
  intro j
  by_cases hj : j < ts.length
  · rw [List.getElem?_take_of_lt hj, Array.getElem?_toList]
    simp [putCells, hj, show j < cur.size by omega]
  · rw [List.getElem?_take_eq_none (by omega), List.getElem?_eq_none (by simp; omega)]
theorem ownsRowE_sorted (hl : ts.length = ss.length) (hbase : base ≤ g) (hb : w.heap[g]? = some (.cells cur e (0, 0)))
    (h1 : ss.length ≤ cap) (h2 : cap ≤ maxLen) (h3 : cur.size = cap * 1) :
    (grow (putRow enc (Sort.ahead w n) g 0 ts.toArray) os).ownsRow base e 1 (.slice (some ⟨g, 0, none⟩) ss.length cap) ss.length (ts.map enc) :=
  ⟨by simp [hl], .inr ⟨g, cap, _, rfl, hbase, heapE_sorted _ hb, h1, h2, by simp [putCells, h3], by rw [Nat.mul_one, ← hl]; exact takeE_putCells cur ts (by omega)⟩⟩
end
/-- ints, rising -/
def sortI (l : List Int) : List Int := l.mergeSort fun x y => decide (x ≤ y)
theorem sortI_length (l : List Int) : (sortI l).length = l.length := by simp [sortI]
def slices_Sort.f (l : List Int) : Option (List Int) := if l.length ≤ 1000000000000 then some (sortI l) else none
theorem slices_Sort.calls (P0_ : Nat → Prop) (u9000_ : Value) (l0 : List Int) (r : List Int) (w0 w : World) (hB : Below w0.heap.size w0 w) (ho0 : Kd.R (Kd.int .i64) 3 w w0.heap.size P0_ u9000_ l0) (h : slices_Sort.f l0 = some r) :
    Calls Try.prog 30 #[u9000_] w fun e w' => e = .returned (.tuple #[]) ∧ Kd.R (Kd.int .i64) 3 w' w0.heap.size (fun k_ => (P0_ k_ ∨ w.heap.size ≤ k_)) u9000_ r ∧ Below w0.heap.size w0 w' ∧ Kept w w' (fun k_ => P0_ k_) := by
  unfold slices_Sort.f at h
  have hbig : l0.length ≤ 1000000000000 := by
    by_cases hb : l0.length ≤ 1000000000000
    · exact hb
    · rw [if_neg hb] at h; cases h
  rw [if_pos hbig] at h
  injection h with h
  subst h
  have ho := Kd.own_of_R ho0
  have hok := ho0.1
  rcases ho.2 with ⟨rfl, h0⟩ | ⟨g, cap, cur, rfl, hbase, hb, h1, h2, h3, h4⟩
  · have hl : l0 = [] := List.eq_nil_of_length_eq_zero h0
    subst hl
    refine (Try.slices_Sort_int_none none 0 w).mono ?_
    rintro e w' ⟨rfl, rfl⟩
    have e0 : sortI [] = [] := List.eq_nil_of_length_eq_zero (by rw [sortI_length]; rfl)
    rw [e0]
    exact ⟨rfl, Kd.R_nil _ _ _ _ _, hB, Kept.refl _ _⟩
  · have hP : P0_ g := hok g rfl
    have hlt := (Array.getElem?_eq_some_iff.1 hb).1
    have hH : Holds (Value.int .i64) w g 0 l0.toArray := holdsE_of_block (e := 3) hb (by rw [Nat.mul_one] at h4; exact h4)
    refine (Try.slices_Sort_int g 0 cap l0 w hH hlt (by omega)).mono ?_
    rintro e w' ⟨rfl, q, os, rfl⟩
    have hg := grownByE_sorted (w := w) (enc := Value.int .i64) (g := g) (n := q) (os := os) (sortI l0).toArray
    refine ⟨rfl, Kd.R_of_own (ok := fun k_ => P0_ k_ ∨ w.heap.size ≤ k_) ?_ (fun k hk => ?_), ?_, ?_⟩
    · have := ownsRowE_sorted (w := w) (n := q) (os := os) (enc := Value.int .i64) (sortI_length l0) hbase hb h1 h2 h3
      rw [sortI_length]
      exact this
    · have e : g = k := by simpa [Value.ownBlock] using hk
      subst e
      exact .inl hP
    · exact hB.grown hg hB.size (fun k e => by cases e; exact hbase)
    · exact Kept.of_grown hg (Kept.refl _ _) (fun k e => by cases e; exact .inl hP)
end Go.Proofs.Ytbcggfjfgoabpaa.P

end
section
-- Written by a program of this session (wip/tools/hprint.py, over the kit's printer), not by hand. Lean checks it.
namespace Go.Proofs.Ytbcggfjfgoabpaa.P
open Go.RowKit Go.Proofs.YtbcggfjfgoabpaaW.PrintWords Go.Proofs.YtbcggfjfgoabpaaW.PrintLast Go.Proofs.YtbcggfjfgoabpaaW.PrintMore
attribute [local go_sem] max2_int min2_int max_two min_two max_three min_three max_four min_four
set_option linter.unusedVariables false
set_option linter.unusedSimpArgs false

/-! ### lines_Cut: function 19 -/
mutual
def lines_Cut.j0 : Nat → Int → List Int → Bool → Option ((List (S33)) × Int)
  | 0, _, _, _ => none
  | k + 1, x0, x1, x12 => if x12 = true then (some (([] : List (S33)), 2)) else (if x0 < 0 then (some (([] : List (S33)), 3)) else (if 0 ≤ (x1.length : Int) then (if ((x1.length : Int) : Int).toNat ≤ 35184372088832 then (lines_Cut.l0 k x0 x1 (List.replicate ((x1.length : Int) : Int).toNat 0) (x1.length : Int) 0) else (none)) else (none)))
def lines_Cut.l0 : Nat → Int → List Int → List Int → Int → Int → Option ((List (S33)) × Int)
  | 0, _, _, _, _, _ => none
  | k + 1, x0, x1, x6, x27, x28 => if x28 < x27 then (if 0 ≤ x28 then (if x28 < (x1.length : Int) then (if (wrap64 (x0 + 1)) = 0 then (none) else (if x28 < (x6.length : Int) then ((some (x6.set (x28 : Int).toNat (Int.tmod (rd x1 x28) (wrap64 (x0 + 1))) : List Int)).bind fun y286 => (if (rd y286 x28) < 0 then (lines_Cut.l0 k x0 x1 (y286.set (x28 : Int).toNat (wrap64 ((rd y286 x28) + (wrap64 (x0 + 1))))) x27 (wrap64 (x28 + 1))) else (lines_Cut.l0 k x0 x1 y286 x27 (wrap64 (x28 + 1))))) else (none))) else (none)) else (none)) else ((slices_Sort.f x6).bind fun t290 => (if t290.length < 17592186044416 then ((some (t290 ++ [x0] : List Int)).bind fun y291 => (lines_Cut.l1 k ([] : List (S33)) 0 y291 (y291.length : Int) 0)) else (none)))
def lines_Cut.l1 : Nat → List (S33) → Int → List Int → Int → Int → Option ((List (S33)) × Int)
  | 0, _, _, _, _, _ => none
  | k + 1, x8, x9, x60, x61, x62 => if x62 < x61 then (if 0 ≤ x62 then (if x62 < (x60.length : Int) then (if x8.length < 8796093022208 then (lines_Cut.l1 k (x8 ++ [(⟨x9, rd x60 x62⟩ : S33)]) (rd x60 x62) x60 x61 (wrap64 (x62 + 1))) else (none)) else (none)) else (none)) else (some (x8, 0))
end
def lines_Cut.f (k : Nat) (a0 : Int) (l1 : List Int) : Option ((List (S33)) × Int) := if a0 > 4194304 then (lines_Cut.j0 k a0 l1 true) else (lines_Cut.j0 k a0 l1 (decide ((l1.length : Int) ≥ 256)))
theorem lines_Cut.mono_l : ∀ k, (∀ y0 y1 y2, LeO (lines_Cut.j0 k y0 y1 y2) (lines_Cut.j0 (k + 1) y0 y1 y2)) ∧ (∀ y0 y1 y2 y3 y4, LeO (lines_Cut.l0 k y0 y1 y2 y3 y4) (lines_Cut.l0 (k + 1) y0 y1 y2 y3 y4)) ∧ (∀ y0 y1 y2 y3 y4, LeO (lines_Cut.l1 k y0 y1 y2 y3 y4) (lines_Cut.l1 (k + 1) y0 y1 y2 y3 y4))
  | 0 => ⟨fun _ _ _ r h => by simp [lines_Cut.j0] at h, fun _ _ _ _ _ r h => by simp [lines_Cut.l0] at h, fun _ _ _ _ _ r h => by simp [lines_Cut.l1] at h⟩
  | k + 1 => by
    obtain ⟨ih0, ih1, ih2⟩ := lines_Cut.mono_l k
    refine ⟨?_, ?_, ?_⟩
    · intro y0 y1 y2
      unfold lines_Cut.j0
      repeat' first
      | (with_reducible exact ih0 _ _ _)
      | (with_reducible exact ih1 _ _ _ _ _)
      | (with_reducible exact ih2 _ _ _ _ _)
      | (with_reducible exact LeO.refl _)
      | (with_reducible exact LeO.none _)
      | (with_reducible refine LeO.ite ?_ ?_)
      | (with_reducible refine LeO.bind ?_ (fun _ => ?_))
      | exact ih0 _ _ _
      | exact ih1 _ _ _ _ _
      | exact ih2 _ _ _ _ _
      | exact LeO.none _
      | refine LeO.ite ?_ ?_
      | refine LeO.bind ?_ (fun _ => ?_)
    · intro y0 y1 y2 y3 y4
      unfold lines_Cut.l0
      repeat' first
      | (with_reducible exact ih0 _ _ _)
      | (with_reducible exact ih1 _ _ _ _ _)
      | (with_reducible exact ih2 _ _ _ _ _)
      | (with_reducible exact LeO.refl _)
      | (with_reducible exact LeO.none _)
      | (with_reducible refine LeO.ite ?_ ?_)
      | (with_reducible refine LeO.bind ?_ (fun _ => ?_))
      | exact ih0 _ _ _
      | exact ih1 _ _ _ _ _
      | exact ih2 _ _ _ _ _
      | exact LeO.none _
      | refine LeO.ite ?_ ?_
      | refine LeO.bind ?_ (fun _ => ?_)
    · intro y0 y1 y2 y3 y4
      unfold lines_Cut.l1
      repeat' first
      | (with_reducible exact ih0 _ _ _)
      | (with_reducible exact ih1 _ _ _ _ _)
      | (with_reducible exact ih2 _ _ _ _ _)
      | (with_reducible exact LeO.refl _)
      | (with_reducible exact LeO.none _)
      | (with_reducible refine LeO.ite ?_ ?_)
      | (with_reducible refine LeO.bind ?_ (fun _ => ?_))
      | exact ih0 _ _ _
      | exact ih1 _ _ _ _ _
      | exact ih2 _ _ _ _ _
      | exact LeO.none _
      | refine LeO.ite ?_ ?_
      | refine LeO.bind ?_ (fun _ => ?_)
theorem lines_Cut.mono : ∀ a0 a1 k, LeO (lines_Cut.f k a0 a1) (lines_Cut.f (k + 1) a0 a1) := by
  intro a0 a1 k
  obtain ⟨ih0, ih1, ih2⟩ := lines_Cut.mono_l k
  unfold lines_Cut.f
  repeat' first
      | (with_reducible exact ih0 _ _ _)
      | (with_reducible exact ih1 _ _ _ _ _)
      | (with_reducible exact ih2 _ _ _ _ _)
      | (with_reducible exact LeO.refl _)
      | (with_reducible exact LeO.none _)
      | (with_reducible refine LeO.ite ?_ ?_)
      | (with_reducible refine LeO.bind ?_ (fun _ => ?_))
      | exact ih0 _ _ _
      | exact ih1 _ _ _ _ _
      | exact ih2 _ _ _ _ _
      | exact LeO.none _
      | refine LeO.ite ?_ ?_
      | refine LeO.bind ?_ (fun _ => ?_)
set_option maxHeartbeats 8000000 in
set_option maxRecDepth 100000 in
theorem lines_Cut.calls (k : Nat) (a0 : Int) (A1 : Option Addr) (c1 : Nat) (l1 : List Int) (r1 : List (S33)) (r2 : Int) (w : World) (hr1 : Kd.C (Kd.int .i64) w A1 l1.length l1) (hc1 : l1.length ≤ c1) (h : lines_Cut.f k a0 l1 = some (r1, r2)) :
    Calls Try.prog 19 #[.int .i64 a0, .slice A1 l1.length c1] w fun e w' => ∃ v0_ : Value, e = .returned (.tuple #[v0_, .int .i64 r2]) ∧ Kd.R k33 33 w' w.heap.size (fun _ => True) v0_ r1 ∧ Below w.heap.size w w' := by
  have hu33 := Try.underlying33
  have HR1 := Aside0.mk hr1
  have HC1 := Aside0.mk hc1
  clear hr1 hc1
  have HB := Aside0.mk (Below.refl w.heap.size w)
  have H : (if a0 > 4194304 then (lines_Cut.j0 k a0 l1 true) else (lines_Cut.j0 k a0 l1 (decide ((l1.length : Int) ≥ 256)))) = some (r1, r2) := h
  clear h
  have HC3 := Aside0.mk H
  clear H
  go_enter Try.func19, Try.ntmps19
  go_upto_region 1 with (fail)
  go_cut [12] (fun v12 wc => ∃ (kq : Nat) (x12_2 : Bool), v12 = .bool x12_2 ∧ Aside0 (lines_Cut.j0 kq a0 l1 x12_2 = some (r1, r2)) ∧ Aside0 (kq ≤ k) ∧ Aside0 (Below w.heap.size w wc))
  case first =>
    have H := HC3.out
    clear HC3
    by_cases c4 : a0 > 4194304
    · rw [if_pos c4] at H
      have c4b0 : decide (4194304 < a0) = true := decide_eq_true c4
      clear c4
      (first | rw [c4b0] | (simp only [i64_w, i32_w]; rw [c4b0]) | skip)
      have H' := Aside0.mk H
      clear H
      go_wp2
      go_meet
      case rel => exact ⟨_, (true), (by first | rfl | (simp; done) | (simp [*]; done)), H', ⟨by first | omega | exact Nat.le_refl _⟩, ⟨by repeat (first | (with_reducible first | exact HB.out | apply below_alloc | apply pw_below_drewN | apply below_drew1) | exact HB.out)⟩⟩
    · rw [if_neg c4] at H
      have c4b0 : decide (4194304 < a0) = false := decide_eq_false c4
      clear c4
      (first | rw [c4b0] | (simp only [i64_w, i32_w]; rw [c4b0]) | skip)
      have H' := Aside0.mk H
      clear H
      go_wp2
      go_meet
      case rel => exact ⟨_, (decide ((l1.length : Int) ≥ 256)), (by first | rfl | (simp; done) | (simp [*]; done)), H', ⟨by first | omega | exact Nat.le_refl _⟩, ⟨by repeat (first | (with_reducible first | exact HB.out | apply below_alloc | apply pw_below_drewN | apply below_drew1) | exact HB.out)⟩⟩
  case rest =>
    clear HC3
    try clear c1
    try clear p2
    try clear c4
    try clear c4b0
    obtain ⟨kq, x12_2, rfl, HA, HJ2, HB⟩ := hcut
    cases kq with
    | zero => exact absurd HA.out (by simp [lines_Cut.j0])
    | succ kj2 =>
      have H := HA.out
      clear HA
      simp only [lines_Cut.j0] at H
      by_cases c5 : x12_2 = true
      · subst c5
        have H1 : (some (([] : List (S33)), 2)) = some (r1, r2) := by rw [if_pos rfl] at H; exact H
        clear H
        have H := H1
        clear H1
        simp only [Option.some.injEq, Prod.mk.injEq] at H
        obtain ⟨rfl, rfl⟩ := H
        go_wp2
        go_ret2
        exact ⟨_, by first | rfl | (simp [errW_none, errW_some] <;> rfl) | (simp [*, errW_none, errW_some] <;> rfl), by first | exact Kd.R_nil _ _ _ _ _ | exact Kd.N_nil _ _ _ _ _ | exact Kd.V_nil _ _ _ _ _ | exact Kd.Q_nil _ _ _ _ _ | exact Kd.S_nil _ _ _ _ _, by repeat (first | (with_reducible first | exact HB.out | apply below_alloc | apply pw_below_drewN | apply below_drew1) | exact HB.out)⟩
      · replace c5 := Bool.eq_false_iff.mpr c5
        subst c5
        have H1 : (if a0 < 0 then (some (([] : List (S33)), 3)) else (if 0 ≤ (l1.length : Int) then (if ((l1.length : Int) : Int).toNat ≤ 35184372088832 then (lines_Cut.l0 kj2 a0 l1 (List.replicate ((l1.length : Int) : Int).toNat 0) (l1.length : Int) 0) else (none)) else (none))) = some (r1, r2) := by rw [if_neg (show ¬ (false = true) by decide)] at H; exact H
        clear H
        have H := H1
        clear H1
        by_cases c6 : a0 < 0
        · rw [if_pos c6] at H
          have c6b0 : decide (a0 < 0) = true := decide_eq_true c6
          clear c6
          simp only [Option.some.injEq, Prod.mk.injEq] at H
          obtain ⟨rfl, rfl⟩ := H
          go_wp2
          go_ret2
          exact ⟨_, by first | rfl | (simp [errW_none, errW_some] <;> rfl) | (simp [*, errW_none, errW_some] <;> rfl), by first | exact Kd.R_nil _ _ _ _ _ | exact Kd.N_nil _ _ _ _ _ | exact Kd.V_nil _ _ _ _ _ | exact Kd.Q_nil _ _ _ _ _ | exact Kd.S_nil _ _ _ _ _, by repeat (first | (with_reducible first | exact HB.out | apply below_alloc | apply pw_below_drewN | apply below_drew1) | exact HB.out)⟩
        · rw [if_neg c6] at H
          have c6b0 : decide (a0 < 0) = false := decide_eq_false c6
          clear c6
          by_cases c7 : 0 ≤ (l1.length : Int)
          · rw [if_pos c7] at H
            have c7b0 := eq_true c7
            have c7b1 : decide (0 ≤ (l1.length : Int)) = true := decide_eq_true c7
            (try (have c7b2 := eq_true (show 0 ≤ (c1 : Int) from by have h_ := HC1.out; omega)))
            clear c7
            by_cases c8 : ((l1.length : Int) : Int).toNat ≤ 35184372088832
            · rw [if_pos c8] at H
              have c8b0 := eq_true c8
              have c8b1 : decide (((l1.length : Int) : Int).toNat ≤ 35184372088832) = true := decide_eq_true c8
              clear c8
              obtain ⟨y282, hy282⟩ : ∃ y_ : List Int, y_ = (List.replicate ((l1.length : Int) : Int).toNat 0) := ⟨_, rfl⟩
              replace H : (lines_Cut.l0 kj2 a0 l1 y282 (l1.length : Int) 0) = some (r1, r2) := by first | (rw [hy282]; with_reducible exact H) | (have H2_ := (Option.bind_some _ _).symm.trans H; rw [hy282]; with_reducible exact H2_) | (have H2_ := (Option.bind_some _ _).symm.trans H; with_reducible exact H2_) | with_reducible exact H | (rw [hy282]; exact H) | exact H
              have Ny282 := Aside0.mk hy282
              clear hy282
              have H' := Aside0.mk H
              clear H
              go_wp2_with (first | ((with_reducible refine gate_dst (N := 25) rfl ?_); (try (refine gate_guard (by rfl) ?_; dsimp only)); refine Kd.R_make (Kd.int .i64) _ 3 rfl (N := 25) rfl 42 _ _ rfl (l1.length : Int) rfl rfl Try.underlying42 (.int .i64 0) 8 info3 rfl (by decide) (by omega) 0 (ok := fun _ => True) (okp := fun _ => True) rfl (fun _ hk => hk) trivial (of_decide_eq_true (by first | (with_reducible assumption) | assumption)) (Nat.le_trans (Nat.mul_le_mul_right _ (of_decide_eq_true (by first | (with_reducible assumption) | assumption) : (l1.length : Int).toNat ≤ 35184372088832)) (by omega)) (Below.refl _ _) (Nat.le_refl _) ?_; intro v283 w9 ho10 hb hg_ hnew_; clear hg_ hnew_; (first | rw [← Ny282.out] at ho10 | (simp only [Int.reduceToNat] at ho10; rw [← Ny282.out] at ho10)); have n0_ := Aside0.mk (Kd.R_lower ho10 (below_size (by repeat (first | (with_reducible first | exact HB.out | apply below_alloc | apply pw_below_drewN | apply below_drew1) | exact HB.out)))); have n1_ := Aside0.mk (below_step (by repeat (first | (with_reducible first | exact HB.out | apply below_alloc | apply pw_below_drewN | apply below_drew1) | exact HB.out)) hb); clear HB; have HO284 := n0_; have HB := n1_; clear n0_ n1_; clear hb ho10))
              go_loopg [28] kj2 (fun kq v28 w' => ∃ (x6_2 : List Int) (x28_2 : Int), v28 = .int .i64 x28_2 ∧ Aside0 (lines_Cut.l0 kq a0 l1 x6_2 (l1.length : Int) x28_2 = some (r1, r2)) ∧ Aside0 (kq ≤ kj2) ∧ Aside0 (Kd.R (Kd.int .i64) 3 w' w.heap.size (fun _ => True) v283 x6_2) ∧ Aside0 (Below w.heap.size w w'))
              case atStart => exact ⟨(y282), (0), (by first | rfl | (simp; done) | (simp [*]; done)), H', ⟨Nat.le_refl _⟩, ⟨by (with_reducible repeat (first | apply Kd.R_alloc | apply Kd.R_drewN | apply Kd.R_drew)); exact HO284.out⟩, ⟨by repeat (first | (with_reducible first | exact HB.out | apply below_alloc | apply pw_below_drewN | apply below_drew1) | exact HB.out)⟩⟩
              case round =>
                clear H'
                try clear c1
                try clear p2
                try clear c4
                try clear c4b0
                try clear c5
                try clear c6
                try clear c6b0
                try clear c7
                try clear c7b0
                try clear c7b1
                try clear c7b2
                try clear c8
                try clear c8b0
                try clear c8b1
                try clear p2
                obtain ⟨x6_2, x28_2, rfl, HA, HK2, HO_6, HB⟩ := hrel
                cases gk with
                | zero => exact absurd HA.out (by simp [lines_Cut.l0])
                | succ k2 =>
                  have H := HA.out
                  clear HA
                  simp only [lines_Cut.l0] at H
                  by_cases c11 : x28_2 < (l1.length : Int)
                  · rw [if_pos c11] at H
                    have c11b0 : decide (x28_2 < (l1.length : Int)) = true := decide_eq_true c11
                    clear c11
                    by_cases c12 : 0 ≤ x28_2
                    · rw [if_pos c12] at H
                      have c12b0 : decide (0 ≤ x28_2) = true := decide_eq_true c12
                      clear c12
                      by_cases c13 : x28_2 < (l1.length : Int)
                      · rw [if_pos c13] at H
                        have c13b0 : decide (x28_2 < (l1.length : Int)) = true := decide_eq_true c13
                        clear c13
                        by_cases c14 : (wrap64 (a0 + 1)) = 0
                        · rw [if_pos c14] at H
                          exact absurd H (by simp)
                        · rw [if_neg c14] at H
                          have c14b0 : ((wrap64 (a0 + 1)) == 0) = false := beq_eq_false_iff_ne.mpr c14
                          have c14b1 : ((wrap64 (a0 + 1)) != 0) = true := bne_iff_ne.mpr c14
                          by_cases c15 : x28_2 < (x6_2.length : Int)
                          · rw [if_pos c15] at H
                            have c15b0 : decide (x28_2 < (x6_2.length : Int)) = true := decide_eq_true c15
                            clear c15
                            obtain ⟨y286, hy286⟩ : ∃ y_ : List Int, y_ = (x6_2.set (x28_2 : Int).toNat (Int.tmod (rd l1 x28_2) (wrap64 (a0 + 1)))) := ⟨_, rfl⟩
                            replace H : (if (rd y286 x28_2) < 0 then (lines_Cut.l0 k2 a0 l1 (y286.set (x28_2 : Int).toNat (wrap64 ((rd y286 x28_2) + (wrap64 (a0 + 1))))) (l1.length : Int) (wrap64 (x28_2 + 1))) else (lines_Cut.l0 k2 a0 l1 y286 (l1.length : Int) (wrap64 (x28_2 + 1)))) = some (r1, r2) := by first | (rw [hy286]; with_reducible exact H) | (have H2_ := (Option.bind_some _ _).symm.trans H; rw [hy286]; with_reducible exact H2_) | (have H2_ := (Option.bind_some _ _).symm.trans H; with_reducible exact H2_) | with_reducible exact H | (rw [hy286]; exact H) | exact H
                            have Ny286 := Aside0.mk hy286
                            clear hy286
                            by_cases c17 : (rd y286 x28_2) < 0
                            · rw [if_pos c17] at H
                              have c17b0 : decide ((rd y286 x28_2) < 0) = true := decide_eq_true c17
                              clear c17
                              obtain ⟨y289, hy289⟩ : ∃ y_ : List Int, y_ = (y286.set (x28_2 : Int).toNat (wrap64 ((rd y286 x28_2) + (wrap64 (a0 + 1))))) := ⟨_, rfl⟩
                              replace H : (lines_Cut.l0 k2 a0 l1 y289 (l1.length : Int) (wrap64 (x28_2 + 1))) = some (r1, r2) := by first | (rw [hy289]; with_reducible exact H) | (have H2_ := (Option.bind_some _ _).symm.trans H; rw [hy289]; with_reducible exact H2_) | (have H2_ := (Option.bind_some _ _).symm.trans H; with_reducible exact H2_) | with_reducible exact H | (rw [hy289]; exact H) | exact H
                              have Ny289 := Aside0.mk hy289
                              clear hy289
                              have H' := Aside0.mk H
                              clear H
                              have p285 : 0 ≤ (x28_2 : Int) := of_decide_eq_true (by first | (with_reducible assumption) | assumption)
                              have q285 : x28_2 < (l1.length : Int) := of_decide_eq_true (by first | (with_reducible assumption) | assumption)
                              obtain ⟨ad285, e285, hx285_0⟩ := Kd.at_int HR1.out x28_2 p285 q285
                              cases e285
                              replace hx285_0 := (HB.out.cell (World.block_lt_of_cell? w _ hx285_0)).trans hx285_0
                              replace p285 := eq_true p285
                              replace q285 := eq_true q285
                              have p16 : 0 ≤ (x28_2 : Int) := of_decide_eq_true (by first | (with_reducible assumption) | assumption)
                              have q16 : (x28_2 : Int) < ((x6_2.length : Int) : Int) := of_decide_eq_true (by first | (with_reducible assumption) | assumption)
                              obtain ⟨go16, co16, eo16, gb16, gl16, cl16, HG16⟩ := Kd.R_form HO_6.out (by omega)
                              (first | cases eo16 | (injection eo16 with ea_ en_ ec_; (first | subst ea_ | (injection ea_ with ea_; subst ea_)); subst ec_; clear en_))
                              have GB16 := Aside0.mk gb16
                              have GG16 := Aside0.mk HG16
                              clear gb16 gl16 HG16
                              obtain ⟨hx16_0, hf16_0⟩ := Kd.R_celln 0 HO_6.out (x28_2 : Int) p16 q16
                              replace p16 := eq_true p16
                              replace q16 := eq_true q16
                              have HP19 := Kd.R_putg HO_6.out (x28_2 : Int) (Int.tmod (rd l1 x28_2) (wrap64 (a0 + 1)))
                              go_wp2_with (first | ((with_reducible refine gate_store (t := 3) (p := 40) rfl ?_); refine store_event (t := 3) (p := 40) (v := ?vo_w20) (w1 := (wr.setCell ⟨go16, (x28_2 : Int).toNat, none⟩ (.int .i64 (Int.tmod (rd l1 x28_2) (wrap64 (a0 + 1)))))) ?hg ?ho ?hn ?hr ?_; (case ho => rfl); (case hg => rfl); (case hn => rfl); (case hr => first | (go_simp; done) | (go_simp; rfl)); intro w20 hw; have hg : wr.grownBy w20 (some go16) := (by rw [hw]; exact HP19.2); have hp_ : Kd.R (Kd.int .i64) 3 w20 w.heap.size (fun _ => True) (.slice (some ⟨go16, 0, none⟩) x6_2.length co16) y286 := (by rw [hw, Ny286.out]; exact HP19.1); clear HP19; have n0_ := Aside0.mk (hp_); have n1_ := Aside0.mk ((by rw [hw]; exact below_set (HB.out) GB16.out : Below w.heap.size w w20)); clear HO_6; clear HB; have HO_6 := n0_; have HB := n1_; clear n0_ n1_; clear hg hw hp_; have p287 : 0 ≤ (x28_2 : Int) := of_decide_eq_true (by first | (with_reducible assumption) | assumption); have q287 : x28_2 < (y286.length : Int) := (by have h_ : (x28_2 : Int) < ((x6_2.length : Int) : Int) := of_decide_eq_true (by first | (with_reducible assumption) | assumption); first | (have e_ := (Kd.R_reads' HO_6.out).1; omega) | simpa only [Ny286.out, List.length_set] using h_); have ql287 : ((x28_2 : Int) < ((x6_2.length : Int) : Int)) = True := eq_true (of_decide_eq_true (by first | (with_reducible assumption) | assumption)); obtain ⟨ad287, e287, hx287_0⟩ := Kd.at_int (Kd.R_reads' HO_6.out).2.2 x28_2 p287 q287; obtain rfl : (⟨go16, 0, none⟩ : Addr) = ad287 := (by injection e287); (first | simp only [add_plain] at hx287_0 | simp only [add_at] at hx287_0 | simp only [Addr.add, Nat.zero_add] at hx287_0 | skip); replace p287 := eq_true p287; replace q287 := eq_true q287; have p288 : 0 ≤ (x28_2 : Int) := of_decide_eq_true (by first | (with_reducible assumption) | assumption); have q288 : x28_2 < (y286.length : Int) := (by have h_ : (x28_2 : Int) < ((x6_2.length : Int) : Int) := of_decide_eq_true (by first | (with_reducible assumption) | assumption); first | (have e_ := (Kd.R_reads' HO_6.out).1; omega) | simpa only [Ny286.out, List.length_set] using h_); have ql288 : ((x28_2 : Int) < ((x6_2.length : Int) : Int)) = True := eq_true (of_decide_eq_true (by first | (with_reducible assumption) | assumption)); obtain ⟨ad288, e288, hx288_0⟩ := Kd.at_int (Kd.R_reads' HO_6.out).2.2 x28_2 p288 q288; obtain rfl : (⟨go16, 0, none⟩ : Addr) = ad288 := (by injection e288); (first | simp only [add_plain] at hx288_0 | simp only [add_at] at hx288_0 | simp only [Addr.add, Nat.zero_add] at hx288_0 | skip); replace p288 := eq_true p288; replace q288 := eq_true q288; have p18 : 0 ≤ (x28_2 : Int) := of_decide_eq_true (by first | (with_reducible assumption) | assumption); have q18 : (x28_2 : Int) < ((x6_2.length : Int) : Int) := of_decide_eq_true (by first | (with_reducible assumption) | assumption); obtain ⟨hx18_0, hf18_0⟩ := Kd.R_celln 0 HO_6.out (x28_2 : Int) p18 q18; replace p18 := eq_true p18; replace q18 := eq_true q18; obtain ⟨hy21_, hz21_⟩ := Kd.R_celln 0 HO_6.out (x28_2 : Int) (of_decide_eq_true (by first | (with_reducible assumption) | assumption)) (of_decide_eq_true (by first | (with_reducible assumption) | assumption)); have HP21 := Kd.R_putg HO_6.out (x28_2 : Int) (wrap64 ((rd y286 x28_2) + (wrap64 (a0 + 1))))) | ((with_reducible refine gate_store (t := 3) (p := 53) rfl ?_); refine store_event (t := 3) (p := 53) (v := ?vo_w22) (w1 := (w20.setCell ⟨go16, (x28_2 : Int).toNat, none⟩ (.int .i64 (wrap64 ((rd y286 x28_2) + (wrap64 (a0 + 1))))))) ?hg ?ho ?hn ?hr ?_; (case ho => rfl); (case hg => rfl); (case hn => rfl); (case hr => first | (go_simp; done) | (go_simp; rfl)); intro w22 hw; have hg : w20.grownBy w22 (some go16) := (by rw [hw]; exact HP21.2); have hp_ : Kd.R (Kd.int .i64) 3 w22 w.heap.size (fun _ => True) (.slice (some ⟨go16, 0, none⟩) x6_2.length co16) y289 := (by rw [hw, Ny289.out]; exact HP21.1); clear HP21; have n0_ := Aside0.mk (hp_); have n1_ := Aside0.mk ((by rw [hw]; exact below_set (HB.out) GB16.out : Below w.heap.size w w22)); clear HO_6; clear HB; have HO_6 := n0_; have HB := n1_; clear n0_ n1_; clear hg hw hp_))
                              go_roundg k2
                              case measure => have := HJ2.out; have := HK2.out; omega
                              case rel => exact ⟨(y289), (wrap64 (x28_2 + 1)), (by first | rfl | (simp; done) | (simp [*]; done)), H', ⟨by have := HJ2.out; have := HK2.out; omega⟩, ⟨by (with_reducible repeat (first | apply Kd.R_alloc | apply Kd.R_drewN | apply Kd.R_drew)); exact HO_6.out⟩, ⟨by repeat (first | (with_reducible first | exact HB.out | apply below_alloc | apply pw_below_drewN | apply below_drew1) | exact HB.out)⟩⟩
                            · rw [if_neg c17] at H
                              have c17b0 : decide ((rd y286 x28_2) < 0) = false := decide_eq_false c17
                              clear c17
                              have H' := Aside0.mk H
                              clear H
                              have p285 : 0 ≤ (x28_2 : Int) := of_decide_eq_true (by first | (with_reducible assumption) | assumption)
                              have q285 : x28_2 < (l1.length : Int) := of_decide_eq_true (by first | (with_reducible assumption) | assumption)
                              obtain ⟨ad285, e285, hx285_0⟩ := Kd.at_int HR1.out x28_2 p285 q285
                              cases e285
                              replace hx285_0 := (HB.out.cell (World.block_lt_of_cell? w _ hx285_0)).trans hx285_0
                              replace p285 := eq_true p285
                              replace q285 := eq_true q285
                              have p16 : 0 ≤ (x28_2 : Int) := of_decide_eq_true (by first | (with_reducible assumption) | assumption)
                              have q16 : (x28_2 : Int) < ((x6_2.length : Int) : Int) := of_decide_eq_true (by first | (with_reducible assumption) | assumption)
                              obtain ⟨go16, co16, eo16, gb16, gl16, cl16, HG16⟩ := Kd.R_form HO_6.out (by omega)
                              (first | cases eo16 | (injection eo16 with ea_ en_ ec_; (first | subst ea_ | (injection ea_ with ea_; subst ea_)); subst ec_; clear en_))
                              have GB16 := Aside0.mk gb16
                              have GG16 := Aside0.mk HG16
                              clear gb16 gl16 HG16
                              obtain ⟨hx16_0, hf16_0⟩ := Kd.R_celln 0 HO_6.out (x28_2 : Int) p16 q16
                              replace p16 := eq_true p16
                              replace q16 := eq_true q16
                              have HP23 := Kd.R_putg HO_6.out (x28_2 : Int) (Int.tmod (rd l1 x28_2) (wrap64 (a0 + 1)))
                              go_wp2_with (first | ((with_reducible refine gate_store (t := 3) (p := 40) rfl ?_); refine store_event (t := 3) (p := 40) (v := ?vo_w24) (w1 := (wr.setCell ⟨go16, (x28_2 : Int).toNat, none⟩ (.int .i64 (Int.tmod (rd l1 x28_2) (wrap64 (a0 + 1)))))) ?hg ?ho ?hn ?hr ?_; (case ho => rfl); (case hg => rfl); (case hn => rfl); (case hr => first | (go_simp; done) | (go_simp; rfl)); intro w24 hw; have hg : wr.grownBy w24 (some go16) := (by rw [hw]; exact HP23.2); have hp_ : Kd.R (Kd.int .i64) 3 w24 w.heap.size (fun _ => True) (.slice (some ⟨go16, 0, none⟩) x6_2.length co16) y286 := (by rw [hw, Ny286.out]; exact HP23.1); clear HP23; have n0_ := Aside0.mk (hp_); have n1_ := Aside0.mk ((by rw [hw]; exact below_set (HB.out) GB16.out : Below w.heap.size w w24)); clear HO_6; clear HB; have HO_6 := n0_; have HB := n1_; clear n0_ n1_; clear hg hw hp_; have p287 : 0 ≤ (x28_2 : Int) := of_decide_eq_true (by first | (with_reducible assumption) | assumption); have q287 : x28_2 < (y286.length : Int) := (by have h_ : (x28_2 : Int) < ((x6_2.length : Int) : Int) := of_decide_eq_true (by first | (with_reducible assumption) | assumption); first | (have e_ := (Kd.R_reads' HO_6.out).1; omega) | simpa only [Ny286.out, List.length_set] using h_); have ql287 : ((x28_2 : Int) < ((x6_2.length : Int) : Int)) = True := eq_true (of_decide_eq_true (by first | (with_reducible assumption) | assumption)); obtain ⟨ad287, e287, hx287_0⟩ := Kd.at_int (Kd.R_reads' HO_6.out).2.2 x28_2 p287 q287; obtain rfl : (⟨go16, 0, none⟩ : Addr) = ad287 := (by injection e287); (first | simp only [add_plain] at hx287_0 | simp only [add_at] at hx287_0 | simp only [Addr.add, Nat.zero_add] at hx287_0 | skip); replace p287 := eq_true p287; replace q287 := eq_true q287))
                              go_roundg k2
                              case measure => have := HJ2.out; have := HK2.out; omega
                              case rel => exact ⟨(y286), (wrap64 (x28_2 + 1)), (by first | rfl | (simp; done) | (simp [*]; done)), H', ⟨by have := HJ2.out; have := HK2.out; omega⟩, ⟨by (with_reducible repeat (first | apply Kd.R_alloc | apply Kd.R_drewN | apply Kd.R_drew)); exact HO_6.out⟩, ⟨by repeat (first | (with_reducible first | exact HB.out | apply below_alloc | apply pw_below_drewN | apply below_drew1) | exact HB.out)⟩⟩
                          · rw [if_neg c15] at H
                            exact absurd H (by simp)
                      · rw [if_neg c13] at H
                        exact absurd H (by simp)
                    · rw [if_neg c12] at H
                      exact absurd H (by simp)
                  · rw [if_neg c11] at H
                    have c11b0 : decide (x28_2 < (l1.length : Int)) = false := decide_eq_false c11
                    clear c11
                    replace H := Option.bind_eq_some_iff.mp H
                    obtain ⟨t290, A250, H⟩ := H
                    replace H : (if t290.length < 17592186044416 then ((some (t290 ++ [a0] : List Int)).bind fun y291 => (lines_Cut.l1 k2 ([] : List (S33)) 0 y291 (y291.length : Int) 0)) else (none)) = some (r1, r2) := H
                    have A25 := Aside0.mk A250
                    clear A250
                    by_cases c26 : t290.length < 17592186044416
                    · rw [if_pos c26] at H
                      have LMc26 := Aside0.mk c26
                      clear c26
                      obtain ⟨y291, hy291⟩ : ∃ y_ : List Int, y_ = (t290 ++ [a0]) := ⟨_, rfl⟩
                      replace H : (lines_Cut.l1 k2 ([] : List (S33)) 0 y291 (y291.length : Int) 0) = some (r1, r2) := by first | (rw [hy291]; with_reducible exact H) | (have H2_ := (Option.bind_some _ _).symm.trans H; rw [hy291]; with_reducible exact H2_) | (have H2_ := (Option.bind_some _ _).symm.trans H; with_reducible exact H2_) | with_reducible exact H | (rw [hy291]; exact H) | exact H
                      have Ny291 := Aside0.mk hy291
                      clear hy291
                      have H' := Aside0.mk H
                      clear H
                      obtain ⟨Ao27, co27, eo27⟩ := Kd.R_slice HO_6.out
                      subst eo27
                      go_wp2_with (first | ((with_reducible refine gate_callee (f := 30) rfl ?_); refine goesL_ (some 56) rfl rfl Try.func30 (by kernel_rfl) rfl #[.slice Ao27 x6_2.length co27] rfl (by (try simp only [List.map_toArray, List.map_cons, List.map_nil]); first | done | rfl | (simp only [List.length_drop, List.length_take]; rfl)) ?_; (with_reducible refine (slices_Sort.calls (fun k_ => some k_ = (.slice Ao27 x6_2.length co27 : Value).ownBlock) (.slice Ao27 x6_2.length co27) x6_2 t290 w _ ?side1 ?side2 A25.out).mono ?_); (case side1 => repeat (first | (with_reducible first | exact HB.out | apply below_alloc | apply pw_below_drewN | apply below_drew1) | exact HB.out)); (case side2 => exact Kd.R_tight rfl HO_6.out); rintro e w28 ⟨rfl, hy0, hb, hkp⟩; refine ⟨_, rfl, ?_⟩; have n0_ := Aside0.mk (Kd.R_reok rfl hy0 (fun k_ e_ => HO_6.out.1 k_ e_)); have n1_ := Aside0.mk (hb); clear HO_6; clear HB; have HO_6 := n0_; have HB := n1_; clear n0_ n1_; (try clear hb); (try clear hkp); (try clear hy0)) | ((with_reducible refine gate_builtin (b := .append) (xs := #[.tmp 57, .tmp 59]) rfl ?_); (try (refine gate_guard (by rfl) ?_; dsimp only)); at_builtin; refine Kd.R_append (Kd.int .i64) (w0 := w) w.heap.size rfl (.tmp 57) (.tmp 59) 42 3 (.int .i64 0) 8 rfl Try.underlying42 info3 rfl (by decide) (by omega) (.slice Ao27 x6_2.length co27) t290 a0 [.int .i64 a0] (fun _ => True) (fun _ => False) rfl rfl ?aP (fun _ hk => hk.elim) ?aF ?aO ?aB ?aS ?aL ?_; (case aP => exact rfl); (case aB => exact (by repeat (first | (with_reducible first | exact HB.out | apply below_alloc | apply pw_below_drewN | apply below_drew1) | exact HB.out))); (case aF => exact (fun _ _ => trivial)); (case aO => exact (by (with_reducible repeat (first | apply Kd.R_alloc | apply Kd.R_drewN | apply Kd.R_drew)); exact HO_6.out)); (case aS => exact (below_size (by repeat (first | (with_reducible first | exact HB.out | apply below_alloc | apply pw_below_drewN | apply below_drew1) | exact HB.out)))); (case aL => have := LMc26.out; omega); intro v292 w29 ho hb hg hat; rw [← Ny291.out] at ho; have n0_ := Aside0.mk (hb); have n1_ := Aside0.mk (ho); clear HB; clear HO_6; have HB := n0_; have HO293 := n1_; clear n0_ n1_; clear ho hb hg hat; obtain ⟨Ao30, co30, eo30⟩ := Kd.R_slice HO293.out; subst eo30))
                      go_loopg [8, 9, 62] k2 (fun kq v8 v9 v62 w' => ∃ (x8_3 : List (S33)) (x9_3 : Int) (x62_3 : Int), v9 = .int .i64 x9_3 ∧ v62 = .int .i64 x62_3 ∧ Aside0 (lines_Cut.l1 kq x8_3 x9_3 y291 (y291.length : Int) x62_3 = some (r1, r2)) ∧ Aside0 (kq ≤ k2) ∧ Aside0 (Kd.R k33 33 w' w.heap.size (fun _ => True) v8 x8_3) ∧ Aside0 (Kd.R (Kd.int .i64) 3 w' w.heap.size (fun _ => True) (.slice Ao30 y291.length co30) y291) ∧ Aside0 (Below w.heap.size w w'))
                      case atStart => exact ⟨(([] : List (S33))), (0), (0), (by first | rfl | (simp; done) | (simp [*]; done)), (by first | rfl | (simp; done) | (simp [*]; done)), H', ⟨Nat.le_refl _⟩, ⟨by first | exact Kd.R_nil _ _ _ _ _ | exact Kd.N_nil _ _ _ _ _ | exact Kd.V_nil _ _ _ _ _ | exact Kd.Q_nil _ _ _ _ _ | exact Kd.S_nil _ _ _ _ _⟩, ⟨by (with_reducible repeat (first | apply Kd.R_alloc | apply Kd.R_drewN | apply Kd.R_drew)); exact HO293.out⟩, ⟨by repeat (first | (with_reducible first | exact HB.out | apply below_alloc | apply pw_below_drewN | apply below_drew1) | exact HB.out)⟩⟩
                      case round =>
                        clear H'
                        try clear c1
                        try clear p1
                        try clear q1
                        try clear hx1
                        try clear c2
                        try clear p2
                        try clear q2
                        try clear hx2
                        try clear c3
                        try clear c4
                        try clear c4b0
                        try clear c5
                        try clear c6
                        try clear c6b0
                        try clear p6
                        try clear c7
                        try clear c7b0
                        try clear c7b1
                        try clear c7b2
                        try clear c8
                        try clear c8b0
                        try clear c8b1
                        try clear c11
                        try clear c11b0
                        try clear c12
                        try clear c12b0
                        try clear c13
                        try clear c13b0
                        try clear c14
                        try clear c14b0
                        try clear c14b1
                        try clear c15
                        try clear c15b0
                        try clear p16
                        try clear q16
                        try clear hx16
                        try clear hf16
                        try clear c17
                        try clear c17b0
                        try clear p18
                        try clear q18
                        try clear hx18
                        try clear hf18
                        try clear c19
                        try clear c26
                        try clear p28
                        try clear q28
                        try clear hx28
                        try clear c30
                        try clear hx16_0
                        try clear hx18_0
                        try clear hx285_0
                        try clear hx287_0
                        try clear hx288_0
                        try clear p16
                        try clear p18
                        try clear p2
                        try clear p285
                        try clear p287
                        try clear p288
                        try clear q16
                        try clear q18
                        try clear q285
                        try clear q287
                        try clear q288
                        obtain ⟨x8_3, x9_3, x62_3, rfl, rfl, HA, HK3, HO_8, HO_60, HB⟩ := hrel
                        cases gk with
                        | zero => exact absurd HA.out (by simp [lines_Cut.l1])
                        | succ k3 =>
                          have H := HA.out
                          clear HA
                          simp only [lines_Cut.l1] at H
                          by_cases c31 : x62_3 < (y291.length : Int)
                          · rw [if_pos c31] at H
                            have c31b0 : decide (x62_3 < (y291.length : Int)) = true := decide_eq_true c31
                            clear c31
                            by_cases c32 : 0 ≤ x62_3
                            · rw [if_pos c32] at H
                              have c32b0 : decide (0 ≤ x62_3) = true := decide_eq_true c32
                              clear c32
                              by_cases c33 : x62_3 < (y291.length : Int)
                              · rw [if_pos c33] at H
                                have c33b0 : decide (x62_3 < (y291.length : Int)) = true := decide_eq_true c33
                                clear c33
                                by_cases c34 : x8_3.length < 8796093022208
                                · rw [if_pos c34] at H
                                  have LMc34 := Aside0.mk c34
                                  clear c34
                                  obtain ⟨y295, hy295⟩ : ∃ y_ : List (S33), y_ = (x8_3 ++ [(⟨x9_3, rd y291 x62_3⟩ : S33)]) := ⟨_, rfl⟩
                                  replace H : (lines_Cut.l1 k3 y295 (rd y291 x62_3) y291 (y291.length : Int) (wrap64 (x62_3 + 1))) = some (r1, r2) := by first | (rw [hy295]; with_reducible exact H) | (have H2_ := (Option.bind_some _ _).symm.trans H; rw [hy295]; with_reducible exact H2_) | (have H2_ := (Option.bind_some _ _).symm.trans H; with_reducible exact H2_) | with_reducible exact H | (rw [hy295]; exact H) | exact H
                                  have Ny295 := Aside0.mk hy295
                                  clear hy295
                                  have H' := Aside0.mk H
                                  clear H
                                  have p294 : 0 ≤ (x62_3 : Int) := of_decide_eq_true (by first | (with_reducible assumption) | assumption)
                                  have q294 : x62_3 < (y291.length : Int) := of_decide_eq_true (by first | (with_reducible assumption) | assumption)
                                  obtain ⟨ad294, e294, hx294_0⟩ := Kd.at_int (Kd.R_reads' HO_60.out).2.2 x62_3 p294 q294
                                  cases e294
                                  replace p294 := eq_true p294
                                  replace q294 := eq_true q294
                                  go_wp2_with (first | ((with_reducible refine gate_builtin (b := .append) (xs := #[.tmp 66, .tmp 70]) rfl ?_); (try (refine gate_guard (by rfl) ?_; dsimp only)); at_builtin; refine Kd.R_append k33 (w0 := w) w.heap.size rfl (.tmp 66) (.tmp 70) 44 33 (.agg #[(.int .i64 0), (.int .i64 0)]) 16 rfl Try.underlying44 info33 rfl (by decide) (by omega) u8 x8_3 (⟨x9_3, rd y291 x62_3⟩ : S33) [.int .i64 x9_3, .int .i64 (rd y291 x62_3)] (fun _ => True) (fun _ => False) rfl rfl ?aP (fun _ hk => hk.elim) ?aF ?aO ?aB ?aS ?aL ?_; (case aP => exact k33_mkM _ _ _ (⟨x9_3, rd y291 x62_3⟩ : S33)); (case aB => exact (by repeat (first | (with_reducible first | exact HB.out | apply below_alloc | apply pw_below_drewN | apply below_drew1) | exact HB.out))); (case aF => exact (fun _ _ => trivial)); (case aO => exact (by (with_reducible repeat (first | apply Kd.R_alloc | apply Kd.R_drewN | apply Kd.R_drew)); exact HO_8.out)); (case aS => exact (below_size (by repeat (first | (with_reducible first | exact HB.out | apply below_alloc | apply pw_below_drewN | apply below_drew1) | exact HB.out)))); (case aL => have := LMc34.out; omega); intro v296 w35 ho hb hg hat; rw [← Ny295.out] at ho; have n0_ := Aside0.mk (Kd.R_over' (by (with_reducible repeat (first | apply Kd.R_alloc | apply Kd.R_drewN | apply Kd.R_drew)); exact HO_60.out) (Kd.R_typed (by (with_reducible repeat (first | apply Kd.R_alloc | apply Kd.R_drewN | apply Kd.R_drew)); exact HO_8.out)) (by decide) hg); have n1_ := Aside0.mk (hb); have n2_ := Aside0.mk (ho); clear HO_60; clear HB; clear HO_8; have HO_60 := n0_; have HB := n1_; have HO297 := n2_; clear n0_ n1_ n2_; clear ho hb hg hat))
                                  go_roundg k3
                                  case measure => have := HJ2.out; have := HK2.out; have := HK3.out; omega
                                  case rel => exact ⟨(y295), (rd y291 x62_3), (wrap64 (x62_3 + 1)), (by first | rfl | (simp; done) | (simp [*]; done)), (by first | rfl | (simp; done) | (simp [*]; done)), H', ⟨by have := HJ2.out; have := HK2.out; have := HK3.out; omega⟩, ⟨by (with_reducible repeat (first | apply Kd.R_alloc | apply Kd.R_drewN | apply Kd.R_drew)); exact HO297.out⟩, ⟨by (with_reducible repeat (first | apply Kd.R_alloc | apply Kd.R_drewN | apply Kd.R_drew)); exact HO_60.out⟩, ⟨by repeat (first | (with_reducible first | exact HB.out | apply below_alloc | apply pw_below_drewN | apply below_drew1) | exact HB.out)⟩⟩
                                · rw [if_neg c34] at H
                                  exact absurd H (by simp)
                              · rw [if_neg c33] at H
                                exact absurd H (by simp)
                            · rw [if_neg c32] at H
                              exact absurd H (by simp)
                          · rw [if_neg c31] at H
                            have c31b0 : decide (x62_3 < (y291.length : Int)) = false := decide_eq_false c31
                            clear c31
                            simp only [Option.some.injEq, Prod.mk.injEq] at H
                            obtain ⟨rfl, rfl⟩ := H
                            go_wp2
                            go_ret2
                            exact ⟨_, by first | rfl | (simp [errW_none, errW_some] <;> rfl) | (simp [*, errW_none, errW_some] <;> rfl), by (with_reducible repeat (first | apply Kd.R_alloc | apply Kd.R_drewN | apply Kd.R_drew)); exact HO_8.out, by repeat (first | (with_reducible first | exact HB.out | apply below_alloc | apply pw_below_drewN | apply below_drew1) | exact HB.out)⟩
                    · rw [if_neg c26] at H
                      exact absurd H (by simp)
            · rw [if_neg c8] at H
              exact absurd H (by simp)
          · rw [if_neg c7] at H
            exact absurd H (by simp)

end Go.Proofs.Ytbcggfjfgoabpaa.P

end
section
/- What Splits answers, in plain lists. -/
namespace Go.Proofs.Ytbcggfjfgoabpaa.P
open Go.RowKit Go.Proofs.YtbcggfjfgoabpaaW.PrintWords Go.Proofs.YtbcggfjfgoabpaaW.PrintLast
set_option linter.unusedVariables false

/-- one line more: where the first begins, where the last ends -/
def flS (n : Nat) (s : Int × Int) (p : Nat × Nat) : Int × Int := (if s.1 < 0 then (p.1 : Int) else s.1, if (p.2 : Int) + 1 ≤ (n : Int) then (p.2 : Int) + 1 else (n : Int))
def flP (t : ByteArray) (a b : Int) (l : List (Nat × Nat)) : Int × Int := (l.filter (within a b)).foldl (flS t.size) (-1, 0)
theorem flP_hit {t : ByteArray} {a b : Int} (l : List (Nat × Nat)) (x : Nat × Nat) (h1 : a ≤ (x.1 : Int)) (h2 : (x.1 : Int) < b) : flP t a b (l ++ [x]) = flS t.size (flP t a b l) x := by
  have hw : within a b x = true := by unfold within; rw [decide_eq_true h1, decide_eq_true h2]; rfl
  simp [flP, List.filter_append, hw]
theorem flP_miss {t : ByteArray} {a b : Int} (l : List (Nat × Nat)) (x : Nat × Nat) (h : ¬ (a ≤ (x.1 : Int) ∧ (x.1 : Int) < b)) : flP t a b (l ++ [x]) = flP t a b l := by
  have hw : within a b x = false := by
    unfold within
    by_cases h1 : a ≤ (x.1 : Int)
    · rw [decide_eq_true h1, decide_eq_false (fun h2 => h ⟨h1, h2⟩)]; rfl
    · rw [decide_eq_false h1]; rfl
  simp [flP, List.filter_append, hw]
/-- one piece's split -/
def splitOf (t : ByteArray) (p : S33) : S23 :=
  let s := flP t p.f0 p.f1 (lns t)
  if 0 ≤ s.1 then ⟨s.1, t.extract s.1.toNat s.2.toNat⟩ else ⟨p.f0, ⟨#[]⟩⟩
def splitsP (t : ByteArray) (ps : List S33) : List S23 × Int := if ps.all (fun p => decide ((splitOf t p).f1.size ≤ 65536)) then (ps.map (splitOf t), 0) else ([], 2)
/-- bounds of what is between -/
theorem flS_in (n : Nat) (s : Int × Int) (p : Nat × Nat) (hp : p.1 ≤ p.2 ∧ p.2 ≤ n) (h : -1 ≤ s.1 ∧ s.1 ≤ n ∧ 0 ≤ s.2 ∧ s.2 ≤ n) : -1 ≤ (flS n s p).1 ∧ (flS n s p).1 ≤ n ∧ 0 ≤ (flS n s p).2 ∧ (flS n s p).2 ≤ n := by
  unfold flS
  dsimp only
  split <;> split <;> omega
theorem flP_in (t : ByteArray) (a b : Int) (l : List (Nat × Nat)) (hl : ∀ p ∈ l, p.1 ≤ p.2 ∧ p.2 ≤ t.size) : -1 ≤ (flP t a b l).1 ∧ (flP t a b l).1 ≤ t.size ∧ 0 ≤ (flP t a b l).2 ∧ (flP t a b l).2 ≤ t.size := by
  have key : ∀ (l : List (Nat × Nat)) (s : Int × Int), (∀ p ∈ l, p.1 ≤ p.2 ∧ p.2 ≤ t.size) → (-1 ≤ s.1 ∧ s.1 ≤ t.size ∧ 0 ≤ s.2 ∧ s.2 ≤ t.size) → -1 ≤ (l.foldl (flS t.size) s).1 ∧ (l.foldl (flS t.size) s).1 ≤ t.size ∧ 0 ≤ (l.foldl (flS t.size) s).2 ∧ (l.foldl (flS t.size) s).2 ≤ t.size := by
    intro l
    induction l with
    | nil => intro s _ h; exact h
    | cons p l ih => intro s hp h; exact ih _ (fun q hq => hp q (List.mem_cons_of_mem _ hq)) (flS_in _ _ _ (hp p (List.mem_cons_self ..)) h)
  exact key _ _ (fun p hp => hl p (List.mem_filter.1 hp).1) ⟨by decide, by have := Int.natCast_nonneg t.size; omega, by decide, Int.natCast_nonneg _⟩
/-- a first line's begin lies ahead of the last one's end -/
theorem fl_rise (t : ByteArray) (a b : Int) (d : Nat) : ∀ (s i : Nat) (q : Int × Int), i + d = t.size → s ≤ i → (0 ≤ q.1 → q.1 ≤ q.2 ∧ q.1 ≤ s) →
    (0 ≤ (((lnsD t d s i).filter (within a b)).foldl (flS t.size) q).1 → (((lnsD t d s i).filter (within a b)).foldl (flS t.size) q).1 ≤ (((lnsD t d s i).filter (within a b)).foldl (flS t.size) q).2) := by
  have step : ∀ (s i : Nat) (q : Int × Int), s ≤ i → i ≤ t.size → (0 ≤ q.1 → q.1 ≤ q.2 ∧ q.1 ≤ s) → (0 ≤ (flS t.size q (s, i)).1 → (flS t.size q (s, i)).1 ≤ (flS t.size q (s, i)).2 ∧ (flS t.size q (s, i)).1 ≤ ((i + 1 : Nat) : Int)) := by
    intro s i q hs hi hq
    unfold flS
    dsimp only
    split <;> split <;> omega
  induction d with
  | zero =>
    intro s i q hi hs hq
    unfold lnsD
    split
    · rw [List.filter_cons]
      split
      · intro h; exact (step s t.size q (by omega) (Nat.le_refl _) hq h).1
      · intro h; exact (hq h).1
    · intro h; exact (hq h).1
  | succ d ih =>
    intro s i q hi hs hq
    unfold lnsD
    split
    · rw [List.filter_cons]
      split
      · rw [List.foldl_cons]
        exact ih (i + 1) (i + 1) _ (by omega) (Nat.le_refl _) (step s i q hs (by omega) hq)
      · exact ih (i + 1) (i + 1) q (by omega) (Nat.le_refl _) (fun h => by have := hq h; omega)
    · exact ih s (i + 1) q (by omega) (by omega) hq
theorem flP_rise (t : ByteArray) (a b : Int) : 0 ≤ (flP t a b (lns t)).1 → (flP t a b (lns t)).1 ≤ (flP t a b (lns t)).2 :=
  fl_rise t a b t.size 0 0 (-1, 0) (by omega) (Nat.le_refl _) (fun h => absurd h (by decide))
theorem lns_in (t : ByteArray) : ∀ p ∈ lns t, p.1 ≤ p.2 ∧ p.2 ≤ t.size := fun p hp => (lnsD_in t t.size 0 0 (by omega) (Nat.le_refl _) p hp).2
end Go.Proofs.Ytbcggfjfgoabpaa.P

end
