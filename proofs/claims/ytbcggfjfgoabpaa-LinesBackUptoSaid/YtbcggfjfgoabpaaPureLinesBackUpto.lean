/- Lines: the lines, each with a line feed behind it, are the text, or the text and a line feed; none has one within it (texts of bulk at most 2^20). -/
import Derived.Test.YtbcggfjfgoabpaaSLinesBackUpto
import Derived.Test.YtbcggfjfgoabpaaMLi6
namespace Go.Proofs.Ytbcggfjfgoabpaa.P
set_option linter.unusedVariables false
open Go.RowKit Go.Proofs.YtbcggfjfgoabpaaW.PrintWords Go.Proofs.YtbcggfjfgoabpaaW.PrintLast

theorem back_inner (t : ByteArray) (ht : t.size ≤ 1048576) (L : List ByteArray) (hL : L.length ≤ 2000000) (i s e : Nat) (hi : i < L.length) (hl : L[i] = lnT t (s, e)) (hse : s ≤ e) (het : e ≤ t.size) (hn : ∀ j, s ≤ j → j < e → bt t (j : Int) ≠ 10) (d : Nat) :
    ∀ (k j : Nat), j + d = e - s → d < k → winnowlaw13_LinesBack.l1 k t L (s : Int) (i : Int) (j : Int) = winnowlaw13_LinesBack.l1 (k - d) t L (s : Int) (i : Int) ((e - s : Nat) : Int) := by
  have hr : rdOf ByteArray.empty L (i : Int) = lnT t (s, e) := by rw [rdOf_nat _ L i hi, hl]
  have hsz := lnT_size t s e hse het
  induction d with
  | zero => intro k j hj hk; rw [show e - s = j by omega]; rfl
  | succ d ih =>
    intro k j hj hk
    obtain ⟨k, rfl⟩ : ∃ m, k = m + 1 := ⟨k - 1, by omega⟩
    rw [winnowlaw13_LinesBack.l1, if_pos (Int.natCast_nonneg i), if_pos (by omega), hr, hsz, if_pos (by omega), if_pos (Int.natCast_nonneg j)]
    have hb : bt (lnT t (s, e)) (j : Int) = bt t ((s + j : Nat) : Int) := bt_extract t s e j het (by omega)
    rw [hb, if_neg (hn (s + j) (by omega) (by omega)), wrapT j (by omega), ih k (j + 1) (by omega) (by omega)]
    rw [show k + 1 - (d + 1) = k - d by omega]
theorem back_outer (t : ByteArray) (ht : t.size ≤ 1048576) (Ls : List (Nat × Nat)) (L : List ByteArray) (hL : L = Ls.map (lnT t)) (hlen : Ls.length ≤ t.size + 1) (d : Nat) : ∀ (k s i : Nat), s ≤ t.size → t.size - s < d → Ls.drop i = lnsD t (t.size - s) s s → i ≤ Ls.length → 3 * d + 3 * (t.size - s) + 10 < k →
    winnowlaw13_LinesBack.l0 k t L (s : Int) (i : Int) = some true := by
  have hlm : L.length = Ls.length := by rw [hL, List.length_map]
  induction d with
  | zero => intro k s i hs hd; omega
  | succ d ih =>
    intro k s i hs hd hdr hi hk
    obtain ⟨k, rfl⟩ : ∃ m, k = m + 1 := ⟨k - 1, by omega⟩
    obtain ⟨k, rfl⟩ : ∃ m, k = m + 1 := ⟨k - 1, by omega⟩
    by_cases hlt : s < t.size
    · obtain ⟨e, rest, h1, h2, h3, h4, h5⟩ := lnsD_first t s hlt
      rw [h1] at hdr
      clear h1
      have hil : i < Ls.length := by
        by_cases h : i < Ls.length
        · exact h
        · rw [List.drop_of_length_le (by omega)] at hdr; cases hdr
      rw [List.drop_eq_getElem_cons hil] at hdr
      injection hdr with hd1 hd2
      have hLi : L[i]'(by omega) = lnT t (s, e) := by simp only [hL, List.getElem_map, hd1]
      clear hd1
      have hsz := lnT_size t s e h2 h3
      have hself : ((t.extract s e).toList != (lnT t (s, e)).toList) = false := by unfold lnT; simp
      have hin := fun (hk2 : e - s < k) => back_inner t ht L (by omega) i s e (by omega) hLi h2 h3 h4 (e - s) k 0 (by omega) hk2
      generalize lnT t (s, e) = x at *
      have hr : rdOf ByteArray.empty L (i : Int) = x := by rw [rdOf_nat _ _ i (by omega), hLi]
      have HW := Aside0.mk (show wrap64 ((s : Int) + (x.size : Int)) = (e : Int) by rw [hsz]; unfold wrap64; omega)
      have hin2 : winnowlaw13_LinesBack.l1 k t L (s : Int) (i : Int) 0 = _ := hin (by omega)
      clear hin
      rw [winnowlaw13_LinesBack.l0, if_pos (by omega), if_pos (Int.natCast_nonneg i), hr, HW.out, if_neg (Int.not_lt.2 (Int.ofNat_le.2 h3)), if_pos (Int.natCast_nonneg s), if_pos (Int.ofNat_le.2 h2), if_pos (Int.ofNat_le.2 h3), Int.toNat_natCast, Int.toNat_natCast, hself, winnowlaw13_LinesBack.j1, if_neg (by decide), hin2]
      obtain ⟨k2, hk2⟩ : ∃ m, k - (e - s) = m + 1 := ⟨k - (e - s) - 1, by omega⟩
      rw [hk2, winnowlaw13_LinesBack.l1, if_pos (Int.natCast_nonneg i), if_pos (by omega), hr, HW.out, hsz, if_neg (by omega)]
      rcases h5 with ⟨a1, a2, a3⟩ | ⟨a1, a2⟩
      · rw [if_neg (by omega), if_pos (Int.natCast_nonneg e), if_pos (by omega), if_pos a2, wrapT e (by omega), wrapT i (by omega)]
        exact ih k2 (e + 1) (i + 1) (by omega) (by omega) (by rw [hd2, a3]) (by omega) (by omega)
      · subst a2
        have hlast : Ls.length = i + 1 := by
          have := congrArg List.length hd2
          rw [List.length_drop, List.length_nil] at this
          omega
        have HW2 := Aside0.mk (show wrap64 ((L.length : Int) - 1) = (i : Int) by rw [hlm, hlast]; unfold wrap64; omega)
        rw [if_pos (by omega), HW2.out, if_pos rfl, if_pos (by omega), works_eq]
        rfl
    · obtain rfl : s = t.size := by omega
      rw [lnsD_last] at hdr
      have hie : i = Ls.length := by
        have := congrArg List.length hdr
        rw [List.length_drop, List.length_nil] at this
        omega
      rw [winnowlaw13_LinesBack.l0, hlm, if_neg (by omega), if_pos rfl, works_eq]
      rfl
theorem LinesBackUpto_pure : LinesBackPureUpto := by
  intro t h1 h2
  refine ⟨10 * t.size + 100, ?_⟩
  unfold winnowlaw13_LinesBack.f lines_Lines.f
  rw [if_pos (by omega), Option.bind_some]
  exact back_outer t (by omega) (lns t) _ rfl (lnsD_length t t.size 0 0) (t.size + 1) _ 0 0 (by omega) (by omega) (by rw [List.drop_zero]; rfl) (Nat.zero_le _) (by omega)
end Go.Proofs.Ytbcggfjfgoabpaa.P
