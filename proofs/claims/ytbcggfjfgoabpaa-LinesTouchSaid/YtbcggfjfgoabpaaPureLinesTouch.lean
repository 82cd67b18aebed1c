/- Lines: two pieces that touch, taken as one, have the lines of both. -/
import Derived.Test.YtbcggfjfgoabpaaSLinesTouch
import Derived.Test.YtbcggfjfgoabpaaMLi6
namespace Go.Proofs.Ytbcggfjfgoabpaa.P
open Go.RowKit Go.Proofs.YtbcggfjfgoabpaaW.PrintWords Go.Proofs.YtbcggfjfgoabpaaW.PrintLast

theorem LinesTouch_pure : LinesTouchPure := by
  intro t a b c h1 _ _ _
  refine ⟨t.size + 11, ?_⟩
  have hw : winnowlaw13_LinesTouch.j0 (t.size + 11) t a b c true = some true := by
    rw [winnowlaw13_LinesTouch.j0, if_pos rfl, works_eq]; rfl
  unfold winnowlaw13_LinesTouch.f
  by_cases c1 : a < 0
  · rw [if_pos c1, hw]
  rw [if_neg c1]
  by_cases c2 : a > b
  · rw [if_pos c2, hw]
  rw [if_neg c2]
  by_cases c3 : b > c
  · rw [if_pos c3, hw]
  rw [if_neg c3]
  by_cases c4 : c > (t.size : Int)
  · rw [if_pos c4, hw]
  rw [if_neg c4]
  by_cases c5 : (t.size : Int) > 4194304
  · rw [decide_eq_true c5, hw]
  rw [decide_eq_false c5, winnowlaw13_LinesTouch.j0, if_neg (by decide)]
  have hof : ∀ x y : Int, 0 ≤ x → x ≤ y → y ≤ (t.size : Int) → lines_Of.f t x y = some (((lns t).filter (within x y)).map (lnT t), 0) := by
    intro x y h1 h2 h3
    unfold lines_Of.f ofL
    rw [if_pos (by omega), if_neg (by omega), if_neg (by omega)]
  have hlen := lnsD_length t t.size 0 0
  have hfl : ∀ x y : Int, (((lns t).filter (within x y)).map (lnT t)).length ≤ t.size + 1 := fun x y => by
    rw [List.length_map]
    exact Nat.le_trans (List.length_filter_le _ _) hlen
  have g1 := hfl a b
  have g2 := hfl b c
  have ht := filter_touch (lns t) (lns_rise t) a b c (by omega) (by omega)
  rw [hof a b (by omega) (by omega) (by omega), Option.bind_some, hof b c (by omega) (by omega) (by omega), Option.bind_some, hof a c (by omega) (by omega) (by omega), Option.bind_some, if_pos rfl, if_pos rfl, if_pos rfl, if_pos (by dsimp only; omega)]
  have hk : winnowlaw13_sameTexts.f (t.size + 10) (((lns t).filter (within a b)).map (lnT t) ++ ((lns t).filter (within b c)).map (lnT t)) (((lns t).filter (within a c)).map (lnT t)) = some true := by
    rw [← List.map_append, ht, sameTexts_eq _ _ (by have := hfl a c; omega) _ (by have := hfl a c; omega)]
    simp
  rw [hk, Option.bind_some, if_pos rfl, works_eq]
  rfl
end Go.Proofs.Ytbcggfjfgoabpaa.P
