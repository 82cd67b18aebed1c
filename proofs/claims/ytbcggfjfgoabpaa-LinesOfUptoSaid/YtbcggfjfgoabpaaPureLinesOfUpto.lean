/- The lines of any text, and of any piece of it, or the error, are the document's (texts of bulk at most 2^20). -/
import Derived.Test.YtbcggfjfgoabpaaSLinesOfUpto
import Derived.Test.YtbcggfjfgoabpaaTexts
namespace Go.Proofs.Ytbcggfjfgoabpaa.P
open Go.RowKit Go.Proofs.YtbcggfjfgoabpaaW.PrintWords Go.Proofs.YtbcggfjfgoabpaaW.PrintLast

theorem ofL_length (t : ByteArray) (a b : Int) : (ofL t a b).1.length ≤ t.size + 1 := by
  have := lnsD_length t t.size 0 0
  unfold ofL
  split
  · simp
  · split
    · simp
    · rw [List.length_map]
      exact Nat.le_trans (List.length_filter_le _ _) this
theorem LinesOfUpto_pure : LinesOfPureUpto := by
  intro t p h1 h2 h3
  have hs : t.size ≤ 1048576 := by omega
  obtain ⟨k, hk⟩ : ∃ k, k = t.size + 1000 := ⟨_, rfl⟩
  refine ⟨k, ?_⟩
  have hL : lines_Lines.f t = some ((lns t).map (lnT t)) := by unfold lines_Lines.f; rw [if_pos (by omega)]
  have hlen := lnsD_length t t.size 0 0
  have hlm : ((lns t).map (lnT t)).length ≤ t.size + 1 := by rw [List.length_map]; exact hlen
  have hO : lines_Of.f t p.f0 p.f1 = some (ofL t p.f0 p.f1) := by unfold lines_Of.f; rw [if_pos (by omega)]
  have hR := RefOf_eq t hs p.f0 p.f1 k (by omega)
  have hRL := RefLines_eq t hs k (by omega)
  have hol := ofL_length t p.f0 p.f1
  have g1 := spoilt_eq ((lns t).map (lnT t)) (by omega) k (by omega)
  have g2 := spoilt_eq (ofL t p.f0 p.f1).1 (by omega) k (by omega)
  have s1 := sameTexts_eq ((lns t).map (lnT t)) ((lns t).map (lnT t)) (by omega) k (by omega)
  have s2 := sameTexts_eq (ofL t p.f0 p.f1).1 (ofL t p.f0 p.f1).1 (by omega) k (by omega)
  generalize (lns t).map (lnT t) = L at *
  generalize ofL t p.f0 p.f1 = o at *
  have w1 : wrap64 ((L.length : Int) + 64) = ((L.length + 64 : Nat) : Int) := by unfold wrap64; omega
  have w2 : wrap64 ((o.1.length : Int) + 64) = ((o.1.length + 64 : Nat) : Int) := by unfold wrap64; omega
  unfold winnowlaw13_LinesOf.f
  rw [hL, Option.bind_some, Option.bind_some, g1, Option.bind_some, hO, Option.bind_some, Option.bind_some, g2, Option.bind_some, hR, Option.bind_some, hRL, Option.bind_some, s1, Option.bind_some, w1, w2]
  rw [if_pos (by simp), if_pos rfl, if_pos rfl, if_pos rfl, s2, Option.bind_some, if_pos (by simp)]
  simp
end Go.Proofs.Ytbcggfjfgoabpaa.P
