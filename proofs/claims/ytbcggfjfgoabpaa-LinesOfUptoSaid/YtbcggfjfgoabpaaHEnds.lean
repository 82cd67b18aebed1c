/- lines.ends and its closure: the iterator's contract. -/
import Derived.RangeFuncNested
import Derived.RangeFuncBound
import Derived.RangeFuncCalls
import Derived.RangeFuncLeaves
import Derived.RangeFuncBox
import Derived.Shelf.Abstract
import Derived.Shelf.RegionOpen
import Derived.WalkKit
import Derived.OwnWalkIn
import Derived.TacticsInMore
import Derived.LoopNIn
import Derived.LoopIn
import Derived.Maps.AppendAt
import Derived.Lib.OthersKept
import Derived.Test.YtbcggfjfgoabpaaLineDecode
namespace Go.Proofs.Ytbcggfjfgoabpaa.P
open Go.RowKit Go.Shelf Go.Proofs.YtbcggfjfgoabpaaW.PrintWords Go.Proofs.YtbcggfjfgoabpaaW.PrintLast
attribute [local go_sem] Oper.semAt_some
set_option linter.unusedVariables false
set_option linter.unusedSimpArgs false

/-- a line's two ends, in a text -/
abbrev Ln (t : ByteArray) := { p : Nat × Nat // p.1 ≤ p.2 ∧ p.2 ≤ t.size }
def lnV {t : ByteArray} (x : Ln t) : Array Value := #[.int .i64 (x.1.1 : Int), .int .i64 (x.1.2 : Int)]
/-- what a round must keep for the iterator: the text's box, and walks -/
def EK (Bt : Nat) (t : ByteArray) (A B : World) : Prop := (Boxed A Bt 9 (.string t) → Boxed B Bt 9 (.string t)) ∧ KeepsWalks A B
theorem EK.t {Bt : Nat} {t : ByteArray} {A B C : World} (h : EK Bt t A B) (k : EK Bt t B C) : EK Bt t A C := ⟨fun x => k.1 (h.1 x), h.2.trans k.2⟩
theorem EK.b {Bt : Nat} {t : ByteArray} {w : World} (W : World) (l : Nat) (o o' : Obj) (hl : w.heap.size ≤ l) (h : W.heap[l]? = some o) (h1 : o.isCells = false) (h2 : o.isWalk = false) : EK Bt t W (W.putObj l o') := by
  refine ⟨fun x => x.kept (grownBy_putObj' W l o') (fun e => ?_), walksK_b W l o o' hl h h1 h2⟩
  cases e
  rw [show W.heap[Bt]? = _ from x] at h
  cases h
  cases h1
theorem EK.refl (Bt : Nat) (t : ByteArray) (W : World) : EK Bt t W W := ⟨id, KeepsWalks.refl _⟩
theorem iterAt_grown (W : World) (k : Nat) (s : ByteArray) (pos : Nat) : W.grownBy (W.iterAt k s pos) (some k) :=
  ⟨rfl, rfl, rfl, by rw [Lib.iterAt_size]; exact Nat.le_refl _, fun j _ hj => Lib.iterAt_other W k j s pos (fun e => hj (by rw [e]))⟩
theorem ln_snoc {t : ByteArray} (l : List (Ln t)) (x : Ln t) : (l ++ [x]).map Subtype.val = l.map Subtype.val ++ [x.1] := by simp
set_option maxRecDepth 100000 in
set_option maxHeartbeats 4000000 in
theorem ends1_in (F : Fence) (n : Nat) (h31 : F.fn 31) (hro : F.round = none) (hn : 1 ≤ n) (l Bt : Nat) (t : ByteArray) (ht : t.size ≤ 140737488351232) (J Jx : List (Ln t) → World → Prop)
    (W : World) (hJ : AbidesFrom W.heap.size J) (hJx : AbidesFrom W.heap.size Jx)
    (hY : ∀ pre x W1, J pre W1 → pre.length < (lns t).length → YieldAt F (n - 1) Try.prog l (lnV x) W1 fun e W' =>
      (e = .returned (.bool true) ∧ J (pre ++ [x]) W' ∧ EK Bt t W1 W') ∨ (e = .returned (.bool false) ∧ Jx (pre ++ [x]) W'))
    (hb : Boxed W Bt 9 (.string t)) (h0 : J [] W) :
    CallsIn F n Try.prog 31 #[.func (.yield l) #[] #[], .pointer (some ⟨Bt, 0, none⟩)] W fun e W' => (∃ v, e = .returned v) ∧
      ((∃ ys, ys.map Subtype.val = lns t ∧ J ys W') ∨ (∃ pre, pre.map Subtype.val <+: lns t ∧ Jx pre W')) := by
  refine callsIn_of_wp Try.func31 rfl h31 ?_ hro
  simp only [Try.ntmps31, List.size_toArray, List.length_cons, List.length_nil, Nat.reduceAdd, Nat.reduceSub, Array.replicate_succ, Array.replicate_zero, List.push_toArray, List.append_toArray, List.nil_append, List.cons_append]
  have hc := hb.cell
  have hlt := hb.lt
  gi_wp2
  gi_loopw [3] (fun i wr => ∃ (pos s : Nat) (pre : List (Ln t)), i = .int .i64 (s : Int) ∧ s ≤ pos ∧ pos ≤ t.size ∧ lns t = pre.map Subtype.val ++ lnsD t (t.size - pos) s pos ∧ wr.heap[W.heap.size]? = some (.stringIter t pos) ∧ Boxed wr Bt 9 (.string t) ∧ J pre wr)
    (fun i wr => t.size - wr.iterPos W.heap.size)
  case atStart =>
    refine ⟨0, 0, [], rfl, Nat.le_refl _, Nat.zero_le _, rfl, World.iter_heap W t 0, hb.alloc _, hJ [] _ _ none h0 (World.grownBy_alloc W _ none) (fun r e => by cases e)⟩
  case round =>
    obtain ⟨pos, s, pre, rfl, hsp, hpt, hls, hit, hB, hJp⟩ := hrel
    have hcr := hB.cell
    clear hb hc
    by_cases hp : pos < t.size
    · have hnx : ∀ ty, (Instr.next (.pointer (some ⟨W.heap.size, 0, none⟩)) true ty).run Try.prog wr = _ := fun ty => Lib.run_next_any_at wr W.heap.size t pos ty hit hp
      by_cases h10 : bt t (pos : Int) = 10
      · obtain ⟨hd, hl2⟩ := lns_round10 t s pos hp h10
        rw [hd] at hnx
        dsimp only at hnx
        obtain ⟨x, hx⟩ : ∃ x : Ln t, x.1 = (s, pos) := ⟨⟨(s, pos), hsp, hpt⟩, rfl⟩
        have hlen : pre.length < (lns t).length := by rw [hls, hl2, List.length_append, List.length_map, List.length_cons]; omega
        have hit2 := Lib.iterAt_heap wr W.heap.size t pos (pos + 1) hit
        have hJ2 := hJ pre wr _ (some W.heap.size) hJp (iterAt_grown wr W.heap.size t (pos + 1)) (fun r e => by cases e; exact ⟨Nat.le_refl _, _, hit, rfl⟩)
        have hB2 := hB.kept (iterAt_grown wr W.heap.size t (pos + 1)) (fun e => by cases e; omega)
        have hYx := hY pre x _ hJ2 hlen
        rw [lnV, hx] at hYx
        dsimp only at hYx
        obtain ⟨fn, tmps, assign, body, hy, hR⟩ := hYx
        have hls2 : lns t = (pre ++ [x]).map Subtype.val ++ lnsD t (t.size - (pos + 1)) (pos + 1) (pos + 1) := by rw [ln_snoc, hls, hl2, List.append_assoc, hx]; rfl
        have HL := Aside0.mk hls2
        have HM := Aside0.mk hit
        have HR := Aside0.mk hR
        have HIT := Aside0.mk hit2
        have HB2 := Aside0.mk hB2
        have HY := Aside0.mk hY
        have HJ := Aside0.mk hJ
        clear hls hl2 hls2 hlen hx hJ2 hJp hd hit h10 hR hit2 hB2 hB hY hJ hJx h0 hsp
        gi_wp2
        refine HR.out.mono ?_
        rintro e W3 (⟨rfl, hJ3, hk3⟩ | ⟨rfl, hJx3⟩)
        · have hit3 := hk3.2.same _ _ HIT.out rfl
          gi_wp2
          go_roundw
          case rel => exact ⟨pos + 1, pos + 1, pre ++ [x], by simp, Nat.le_refl _, by omega, HL.out, hit3, hk3.1 HB2.out, hJ3⟩
          case measure =>
            simp only [World.iterPos, hit3, HM.out]
            omega
        · gi_wp2
          refine bodyPost_ret (results_none rfl _ _ _) rfl ?_
          exact ⟨⟨_, rfl⟩, .inr ⟨_, ⟨_, HL.out.symm⟩, hJx3⟩⟩
      · obtain ⟨hd1, hd2, hd3, hl2⟩ := lns_round t s pos hp h10
        have hw := decode_le t pos
        have hit2 := Lib.iterAt_heap wr W.heap.size t pos (pos + (Utf8.decode t pos).2) hit
        have hJ2 := hJ pre wr _ (some W.heap.size) hJp (iterAt_grown wr W.heap.size t (pos + (Utf8.decode t pos).2)) (fun r e => by cases e; exact ⟨Nat.le_refl _, _, hit, rfl⟩)
        have hB2 := hB.kept (iterAt_grown wr W.heap.size t (pos + (Utf8.decode t pos).2)) (fun e => by cases e; omega)
        rw [hl2] at hls
        have HL := Aside0.mk hls
        have HM := Aside0.mk hit
        have HIT := Aside0.mk hit2
        have HB2 := Aside0.mk hB2
        have HJ2 := Aside0.mk hJ2
        have H1 := Aside0.mk hd1
        have H2 := Aside0.mk hd2
        have HS := Aside0.mk hsp
        obtain ⟨c, hc32⟩ : ∃ c : Int, c = ((Utf8.decode t pos).1 : Int) := ⟨_, rfl⟩
        rw [← hc32] at hnx
        have hc10 : c ≠ 10 := by omega
        generalize (Utf8.decode t pos).2 = q at hnx HL HIT HB2 HJ2 H1 H2 ⊢
        clear hls hl2 hit hit2 hJ2 hB2 hd1 hd2 hd3 hJp hc32 hw h10 hY hJ hJx h0 hsp hB
        gi_wp2
        go_roundw
        case rel => exact ⟨pos + q, s, pre, rfl, by have := HS.out; omega, H2.out, HL.out, HIT.out, HB2.out, HJ2.out⟩
        case measure =>
          have h1 := H1.out
          simp only [World.iterPos, HIT.out, HM.out]
          omega
    · have hnx : ∀ ty, (Instr.next (.pointer (some ⟨W.heap.size, 0, none⟩)) true ty).run Try.prog wr = _ := fun ty => Lib.run_next_end_at wr W.heap.size t pos ty hit hp
      obtain rfl : pos = t.size := by omega
      by_cases hst : s < t.size
      · obtain ⟨x, hx⟩ : ∃ x : Ln t, x.1 = (s, t.size) := ⟨⟨(s, t.size), hsp, hpt⟩, rfl⟩
        rw [Nat.sub_self, lnsD, if_pos hst] at hls
        have hlen : pre.length < (lns t).length := by rw [hls, List.length_append, List.length_map, List.length_cons]; omega
        have hYx := hY pre x _ hJp hlen
        rw [lnV, hx] at hYx
        dsimp only at hYx
        obtain ⟨fn, tmps, assign, body, hy, hR⟩ := hYx
        have hls2 : (pre ++ [x]).map Subtype.val = lns t := by rw [ln_snoc, hls, hx]
        have HL := Aside0.mk hls2
        have HR := Aside0.mk hR
        clear hls hls2 hlen hx hJp hit hR hY hJ hJx h0 hsp
        gi_wp2
        refine HR.out.mono ?_
        rintro e W3 (⟨rfl, hJ3, hk3⟩ | ⟨rfl, hJx3⟩)
        · gi_wp2
          go_end0
          exact ⟨⟨_, rfl⟩, .inl ⟨_, HL.out, hJ3⟩⟩
        · gi_wp2
          go_end0
          exact ⟨⟨_, rfl⟩, .inr ⟨_, ⟨[], by rw [HL.out, List.append_nil]⟩, hJx3⟩⟩
      · rw [Nat.sub_self, lnsD, if_neg hst, List.append_nil] at hls
        have HL := Aside0.mk hls
        clear hls hit hY hJ hJx h0
        gi_wp2
        go_end0
        exact ⟨⟨_, rfl⟩, .inl ⟨_, HL.out.symm, hJp⟩⟩
/-- the iterator's contract -/
theorem ends_stops (F : Fence) (n : Nat) (h31 : F.fn 31) (hro : F.round = none) (hn : 1 ≤ n) (Bt : Nat) (t : ByteArray) (ht : t.size ≤ 140737488351232) (w : World) (hb : Boxed w Bt 9 (.string t)) :
    SeqStopsK F n Try.prog 31 #[.pointer (some ⟨Bt, 0, none⟩)] (fun x : Ln t => lnV x) (EK Bt t) (fun ys => ys.map Subtype.val = lns t) (fun pre => pre.map Subtype.val <+: lns t) (lns t).length w := fun l J Jx W hW hJ hJx hY h0 =>
  ends1_in F n h31 hro hn l Bt t ht J Jx W hJ hJx hY ((hW.block Bt hb.lt).trans hb) h0
set_option maxHeartbeats 4000000 in
theorem ends_in (F : Fence) (n : Nat) (h29 : F.fn 29) (hro : F.round = none) (t : ByteArray) (w : World) :
    CallsIn F n Try.prog 29 #[.string t] w fun e w' => e = .returned (.func (.func 31) #[] #[.pointer (some ⟨w.heap.size, 0, none⟩)]) ∧ w' = w.alloc (.cells #[.string t] 9) := by
  refine callsIn_of_wp Try.func29 rfl h29 ?_ hro
  simp only [Try.ntmps29, List.size_toArray, List.length_cons, List.length_nil, Nat.reduceAdd, Nat.reduceSub, Array.replicate_succ, Array.replicate_zero, List.push_toArray, List.append_toArray, List.nil_append, List.cons_append]
  gi_wp2
  go_ret
  exact ⟨rfl, rfl⟩
end Go.Proofs.Ytbcggfjfgoabpaa.P
