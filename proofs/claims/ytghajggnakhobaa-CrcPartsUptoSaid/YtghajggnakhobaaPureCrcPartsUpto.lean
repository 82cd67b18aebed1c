/- The sum of a whole out of its parts, by going on, by joining, by writing; three joined in either way. Condition: the arguments' bulk is at most 1048576 (the second form). -/
import Derived.Test.YtghajggnakhobaaSCrcPartsUpto
import Derived.Test.YtghajggnakhobaaPlain
namespace Go.Proofs.Ytghajggnakhobaa.P
open Go.RowKit Go.Proofs.YtghajggnakhobaaW.PrintWords Go.Proofs.YtghajggnakhobaaW.PrintLast Go.Proofs.Ytghajggnakhobaa.Hand

theorem sum_ones (l : List Int) : (l.map fun _ => 1).sum = l.length := by
  induction l with
  | nil => rfl
  | cons x l ih => rw [List.map_cons, List.sum_cons, ih, List.length_cons]; omega
/-- a text's sum -/
def eN (l : List Int) : Nat := Crc.ext 0 (l.map n32)
theorem eN_lt (l : List Int) : eN l < 2 ^ 32 := ext_lt 0 _ (by decide) (n32s_lt l)
theorem Sum_eN (l : List Int) : crc_Sum.f l = some (eN l : Int) := rfl
theorem Ext_eN (l m : List Int) : crc_Extend.f (eN l : Int) m = some (eN (l ++ m) : Int) := by
  rw [Ext_eq]
  unfold extI
  rw [n32_nat _ (eN_lt l)]
  unfold eN
  rw [List.map_append, Crc.ext_append]
theorem Ext_0 (m : List Int) : crc_Extend.f 0 m = some (eN m : Int) := rfl
theorem Join_eN (l m : List Int) (n : Nat) (hn : n = m.length) (hm : m.length ≤ 9223372036854775807) (k : Nat) (hk : 160 ≤ k) : crc_Join.f k (eN l : Int) (eN m : Int) (n : Int) = some (eN (l ++ m) : Int) := by
  subst hn
  rw [Join_eq _ _ _ (eN_lt l) (eN_lt m) (by omega) k hk, Int.toNat_natCast]
  unfold joinN eN
  rw [List.map_append, Crc.ext_join, List.length_map]

theorem CrcPartsUpto_pure : CrcPartsPureUpto := by
  intro a b c _ _ _ hu
  rw [sum_ones, sum_ones, sum_ones] at hu
  refine ⟨160, ?_⟩
  unfold winnowlaw1_CrcParts.f
  have hw : wrap64 ((b.length : Int) + (c.length : Int)) = ((b.length + c.length : Nat) : Int) := by unfold wrap64; omega
  have w1 : wrap64 (0 + (a.length : Int)) = (a.length : Int) := by unfold wrap64; omega
  have w2 : wrap64 ((a.length : Int) + (b.length : Int)) = ((a.length + b.length : Nat) : Int) := by unfold wrap64; omega
  have w3 : wrap64 (((a.length + b.length : Nat) : Int) + (c.length : Int)) = ((a.length + b.length + c.length : Nat) : Int) := by unfold wrap64; omega
  have hwk : winnowlaw1_works.f = some true := rfl
  have hnew : crc_New.f = some (0, 0) := rfl
  have W1 : crc_Running_Write.f 0 0 a = some ((eN a : Int), (a.length : Int)) := by
    unfold crc_Running_Write.f; rw [Ext_0, Option.bind_some, w1]
  have W2 : crc_Running_Write.f (eN a : Int) (a.length : Int) b = some ((eN (a ++ b) : Int), ((a.length + b.length : Nat) : Int)) := by
    unfold crc_Running_Write.f; rw [Ext_eN, Option.bind_some, w2]
  have W3 : crc_Running_Write.f (eN (a ++ b) : Int) ((a.length + b.length : Nat) : Int) c = some ((eN (a ++ b ++ c) : Int), ((a.length + b.length + c.length : Nat) : Int)) := by
    unfold crc_Running_Write.f; rw [Ext_eN, Option.bind_some, w3]
  rw [Option.bind_some, List.nil_append, List.length_nil, if_pos (by omega), Option.bind_some, if_pos (by omega), Option.bind_some, if_pos (by rw [List.length_append]; omega), Option.bind_some]
  rw [Sum_eN (a ++ b ++ c), Option.bind_some, hnew, Option.bind_some]
  dsimp only
  rw [W1, Option.bind_some]
  dsimp only
  rw [W2, Option.bind_some]
  dsimp only
  rw [W3, Option.bind_some]
  dsimp only
  rw [Sum_eN a, Option.bind_some, Ext_eN, Option.bind_some, Ext_eN, Option.bind_some, Option.bind_some, Sum_eN b, Option.bind_some, Join_eN a b b.length rfl (by omega) 160 (by decide), Option.bind_some, Sum_eN c, Option.bind_some,
    Join_eN (a ++ b) c c.length rfl (by omega) 160 (by decide), Option.bind_some, Option.bind_some, Option.bind_some, Option.bind_some, Join_eN b c c.length rfl (by omega) 160 (by decide), Option.bind_some, hw,
    Join_eN a (b ++ c) (b.length + c.length) (by rw [List.length_append]) (by rw [List.length_append]; omega) 160 (by decide), Option.bind_some, hwk, Option.bind_some, if_pos rfl, if_pos rfl, if_pos rfl, if_pos (by rw [List.append_assoc])]
  unfold crc_Running_Sum.f crc_Running_Len.f
  rw [Option.bind_some]
  dsimp only
  rw [if_pos rfl, Option.bind_some]
  dsimp only
  rw [List.length_append, List.length_append, beq_self_eq_true]
end Go.Proofs.Ytghajggnakhobaa.P
