/- What Seal, Open, fill answer, as plain laws: for the law on tiles. -/
import Derived.Test.YtghajggnakhobaaHSums
import Derived.Test.YtghajggnakhobaaPf24
import Derived.Test.YtghajggnakhobaaPf25
namespace Go.Proofs.Ytghajggnakhobaa.P
open Go.RowKit Go.Proofs.YtghajggnakhobaaW.PrintWords Go.Proofs.YtghajggnakhobaaW.PrintLast Go.Proofs.Ytghajggnakhobaa.Hand
set_option linter.unusedVariables false
set_option linter.unusedSimpArgs false

def tile (l : List Int) : List Int := l ++ four (extI 0 l)
theorem tile_length (l : List Int) : (tile l).length = l.length + 4 := by unfold tile; rw [List.length_append, four_length]
theorem tile_eq (l : List Int) (h : l.length + 4 < 140737488355328) : crc_Seal.f l = some (tile l) := Seal_eq l h
theorem rtile_eq (l : List Int) (h : l.length + 4 < 140737488355328) (k : Nat) (hk : 10 * l.length < k) : winnowref1_Seal.f k l = some (tile l) := by
  unfold winnowref1_Seal.f
  rw [Option.bind_some]
  try dsimp only
  rw [if_pos (by simp; omega), Option.bind_some, RefSum_eq l (by omega) k hk, Option.bind_some, Option.bind_some]
  try dsimp only
  rw [if_pos (by simp; omega)]
  rfl
theorem rsame_loop (a b : List Int) (hl : a.length = b.length) (hb : a.length ≤ 9223372036854775806) (d : Nat) : ∀ (k i : Nat), i + d = a.length → d < k →
    winnowref1_same.l0 k a b i = some (decide (a.drop i = b.drop i)) := by
  induction d with
  | zero =>
    intro k i hi hk
    obtain ⟨k, rfl⟩ : ∃ m, k = m + 1 := ⟨k - 1, by omega⟩
    simp only [winnowref1_same.l0]
    rw [if_neg (by omega), List.drop_of_length_le (by omega), List.drop_of_length_le (by omega)]
    simp
  | succ d ih =>
    intro k i hi hk
    obtain ⟨k, rfl⟩ : ∃ m, k = m + 1 := ⟨k - 1, by omega⟩
    have h1 : i < a.length := by omega
    have h2 : i < b.length := by omega
    simp only [winnowref1_same.l0]
    have da := List.drop_eq_getElem_cons h1
    have db := List.drop_eq_getElem_cons h2
    rw [if_pos (by omega), if_pos (by omega), if_pos (by omega), rd_nat a i h1, rd_nat b i h2, da, db]
    have hw : wrap64 ((i : Int) + 1) = ((i + 1 : Nat) : Int) := by unfold wrap64; omega
    by_cases e : a[i] = b[i]
    · rw [if_pos e, hw, ih k (i + 1) (by omega) (by omega), e]
      congr 1
      exact decide_eq_decide.2 (by simp only [List.cons.injEq, true_and])
    · rw [if_neg e]
      congr 1
      exact (decide_eq_false (fun h => e (List.cons.inj h).1)).symm
theorem rsame_eq (k : Nat) (a b : List Int) (hb : a.length ≤ 9223372036854775806) (hk : a.length < k) : winnowref1_same.f k a b = some (decide (a = b)) := by
  unfold winnowref1_same.f
  by_cases h : a.length = b.length
  · rw [if_pos (by omega)]
    have := rsame_loop a b h hb a.length k 0 (by omega) hk
    simpa using this
  · rw [if_neg (by omega)]
    have : a ≠ b := fun e => h (by rw [e])
    simp [this]
def opn (t : List Int) : List Int × Int :=
  if t.length < 4 then ([], 11) else if four (extI 0 (t.take (t.length - 4))) = t.drop (t.length - 4) then (t.take (t.length - 4), 0) else ([], 10)
theorem opn_length (t : List Int) : (opn t).1.length ≤ t.length := by
  unfold opn
  split
  · simp
  · split
    · simp
    · simp
theorem opn_eq (t : List Int) (hs : t.length < 140737488355328) (hR : R8 t) : crc_Open.f t = some (opn t) := by
  unfold opn
  by_cases h : t.length < 4
  · rw [if_pos h, Open_short t h]
  · rw [if_neg h, Open_eq t (t.length - 4) (by omega) (by omega) hR]
    split <;> rfl
theorem ropn_eq (t : List Int) (hs : t.length < 140737488355328) (k : Nat) (hk : 10 * t.length < k) : winnowref1_Open.f k t = some (opn t) := by
  unfold winnowref1_Open.f opn
  by_cases h : t.length < 4
  · rw [if_pos (by omega), if_pos h]
  · have hw : wrap64 ((t.length : Int) - 4) = ((t.length - 4 : Nat) : Int) := by unfold wrap64; omega
    have hlt : (t.take (t.length - 4)).length = t.length - 4 := by rw [List.length_take]; omega
    rw [if_neg (by omega), if_neg h, Option.bind_some]
    try dsimp only
    rw [hw, if_pos (by omega), if_pos (by omega), Int.toNat_natCast, if_pos (by rw [hlt]; simp; omega), Option.bind_some]
    try dsimp only
    rw [List.nil_append, rtile_eq _ (by omega) k (by omega), Option.bind_some]
    try dsimp only
    rw [rsame_eq k _ t (by rw [tile_length]; omega) (by rw [tile_length]; omega), Option.bind_some]
    have e : tile (t.take (t.length - 4)) = t ↔ four (extI 0 (t.take (t.length - 4))) = t.drop (t.length - 4) := by
      unfold tile
      constructor
      · intro h
        exact List.append_cancel_left (h.trans (List.take_append_drop (t.length - 4) t).symm)
      · intro h
        rw [h, List.take_append_drop]
    by_cases q : four (extI 0 (t.take (t.length - 4))) = t.drop (t.length - 4)
    · rw [if_pos q, decide_eq_true (e.2 q)]
      rfl
    · rw [if_neg q, decide_eq_false (fun x => q (e.1 x))]
      rfl
theorem fill_more (m : Int) (d : Nat) : ∀ (k : Nat) (g : List Int) (i : Nat), i + d = 64 → g.length + d < 140737488355328 → d < k → winnowlaw1_fill.l1 k g m (i : Int) = some ((g.length + d : Nat) : Int) := by
  induction d with
  | zero =>
    intro k g i hi hg hk
    obtain ⟨k, rfl⟩ : ∃ m, k = m + 1 := ⟨k - 1, by omega⟩
    rw [winnowlaw1_fill.l1, if_neg (by omega)]
    rfl
  | succ d ih =>
    intro k g i hi hg hk
    obtain ⟨k, rfl⟩ : ∃ m, k = m + 1 := ⟨k - 1, by omega⟩
    have hw : wrap64 ((i : Int) + 1) = ((i + 1 : Nat) : Int) := by unfold wrap64; omega
    rw [winnowlaw1_fill.l1, if_pos (by omega), if_pos (by omega), hw, ih k _ (i + 1) (by omega) (by simp; omega) (by omega), List.length_append, List.length_singleton]
    congr 2
    omega
theorem fill_loop (m : Int) (d : Nat) : ∀ (k : Nat) (g : List Int) (i : Nat), i + d = g.length → g.length + 64 < 140737488355328 → d + 65 < k → winnowlaw1_fill.l0 k g m (i : Int) = some ((g.length + 64 : Nat) : Int) := by
  induction d with
  | zero =>
    intro k g i hi hg hk
    obtain ⟨k, rfl⟩ : ∃ m, k = m + 1 := ⟨k - 1, by omega⟩
    rw [winnowlaw1_fill.l0, if_neg (by omega)]
    exact fill_more m 64 k g 0 (by omega) (by omega) (by omega)
  | succ d ih =>
    intro k g i hi hg hk
    obtain ⟨k, rfl⟩ : ∃ m, k = m + 1 := ⟨k - 1, by omega⟩
    have hw : wrap64 ((i : Int) + 1) = ((i + 1 : Nat) : Int) := by unfold wrap64; omega
    rw [winnowlaw1_fill.l0, if_pos (by omega), if_pos (Int.natCast_nonneg i), hw, ih k _ (i + 1) (by rw [List.length_set]; omega) (by rw [List.length_set]; omega) (by omega), List.length_set]
theorem fill_eq (k : Nat) (g : List Int) (m : Int) (hg : g.length + 64 < 140737488355328) (hk : g.length + 65 < k) : winnowlaw1_fill.f k g m = some ((g.length + 64 : Nat) : Int) := by
  unfold winnowlaw1_fill.f
  exact fill_loop m g.length k g 0 (by omega) hg hk
theorem inc_R8 (l : List Int) : R8 (inc l) := by
  intro x hx
  unfold inc at hx
  obtain ⟨y, _, rfl⟩ := List.mem_map.1 hx
  omega
end Go.Proofs.Ytghajggnakhobaa.P
