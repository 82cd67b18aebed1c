/- Several texts laid together (wip/tools/merge2.py): HEnds, RoundAny, LoopLaw, HLines, HAll, Marks. -/
import Derived.RangeFuncNested
import Derived.RangeFuncBound
import Derived.RangeFuncCalls
import Derived.RangeFuncLeaves
import Derived.RangeFuncBox
import Derived.Shelf.Abstract
import Derived.Shelf.RegionOpen
import Derived.WalkKit
import Derived.OwnWalkIn
import Derived.TacticsInMore
import Derived.LoopNIn
import Derived.LoopIn
import Derived.Maps.AppendAt
import Derived.Lib.OthersKept
import Derived.Test.YtbcggfjfgoabpaaMA2
import Derived.OrdersHeld
import Derived.Deep.RegionHeld3
import Derived.Sort.QuietTacIn
section
/- lines.ends and its closure: the iterator's contract. -/
namespace Go.Proofs.Ytbcggfjfgoabpaa.P
open Go.RowKit Go.Shelf Go.Proofs.YtbcggfjfgoabpaaW.PrintWords Go.Proofs.YtbcggfjfgoabpaaW.PrintLast
attribute [local go_sem] Oper.semAt_some
set_option linter.unusedVariables false
set_option linter.unusedSimpArgs false

/-- a line's two ends, in a text -/
abbrev Ln (t : ByteArray) := { p : Nat × Nat // p.1 ≤ p.2 ∧ p.2 ≤ t.size }
def lnV {t : ByteArray} (x : Ln t) : Array Value := #[.int .i64 (x.1.1 : Int), .int .i64 (x.1.2 : Int)]
/-- what a round must keep for the iterator: the text's box, and walks -/
def EK (Bt : Nat) (t : ByteArray) (A B : World) : Prop := (Boxed A Bt 9 (.string t) → Boxed B Bt 9 (.string t)) ∧ KeepsWalks A B
theorem EK.t {Bt : Nat} {t : ByteArray} {A B C : World} (h : EK Bt t A B) (k : EK Bt t B C) : EK Bt t A C := ⟨fun x => k.1 (h.1 x), h.2.trans k.2⟩
theorem EK.b {Bt : Nat} {t : ByteArray} {w : World} (W : World) (l : Nat) (o o' : Obj) (hl : w.heap.size ≤ l) (h : W.heap[l]? = some o) (h1 : o.isCells = false) (h2 : o.isWalk = false) : EK Bt t W (W.putObj l o') := by
  refine ⟨fun x => x.kept (grownBy_putObj' W l o') (fun e => ?_), walksK_b W l o o' hl h h1 h2⟩
  cases e
  rw [show W.heap[Bt]? = _ from x] at h
  cases h
  cases h1
theorem EK.refl (Bt : Nat) (t : ByteArray) (W : World) : EK Bt t W W := ⟨id, KeepsWalks.refl _⟩
theorem iterAt_grown (W : World) (k : Nat) (s : ByteArray) (pos : Nat) : W.grownBy (W.iterAt k s pos) (some k) :=
  ⟨rfl, rfl, rfl, by rw [Lib.iterAt_size]; exact Nat.le_refl _, fun j _ hj => Lib.iterAt_other W k j s pos (fun e => hj (by rw [e]))⟩
theorem ln_snoc {t : ByteArray} (l : List (Ln t)) (x : Ln t) : (l ++ [x]).map Subtype.val = l.map Subtype.val ++ [x.1] := by simp
set_option maxRecDepth 100000 in
set_option maxHeartbeats 4000000 in
theorem ends1_in (F : Fence) (n : Nat) (h31 : F.fn 31) (hro : F.round = none) (hn : 1 ≤ n) (l Bt : Nat) (t : ByteArray) (ht : t.size ≤ 140737488351232) (J Jx : List (Ln t) → World → Prop)
    (W : World) (hJ : AbidesFrom W.heap.size J) (hJx : AbidesFrom W.heap.size Jx)
    (hY : ∀ pre x W1, J pre W1 → pre.length < (lns t).length → (pre ++ [x]).map Subtype.val <+: lns t → YieldAt F (n - 1) Try.prog l (lnV x) W1 fun e W' =>
      (e = .returned (.bool true) ∧ J (pre ++ [x]) W' ∧ EK Bt t W1 W') ∨ (e = .returned (.bool false) ∧ Jx (pre ++ [x]) W'))
    (hb : Boxed W Bt 9 (.string t)) (h0 : J [] W) :
    CallsIn F n Try.prog 31 #[.func (.yield l) #[] #[], .pointer (some ⟨Bt, 0, none⟩)] W fun e W' => (∃ v, e = .returned v) ∧
      ((∃ ys, ys.map Subtype.val = lns t ∧ J ys W') ∨ (∃ pre, pre.map Subtype.val <+: lns t ∧ Jx pre W')) := by
  refine callsIn_of_wp Try.func31 rfl h31 ?_ hro
  simp only [Try.ntmps31, List.size_toArray, List.length_cons, List.length_nil, Nat.reduceAdd, Nat.reduceSub, Array.replicate_succ, Array.replicate_zero, List.push_toArray, List.append_toArray, List.nil_append, List.cons_append]
  have hc := hb.cell
  have hlt := hb.lt
  gi_wp2
  gi_loopw [3] (fun i wr => ∃ (pos s : Nat) (pre : List (Ln t)), i = .int .i64 (s : Int) ∧ s ≤ pos ∧ pos ≤ t.size ∧ lns t = pre.map Subtype.val ++ lnsD t (t.size - pos) s pos ∧ wr.heap[W.heap.size]? = some (.stringIter t pos) ∧ Boxed wr Bt 9 (.string t) ∧ J pre wr)
    (fun i wr => t.size - wr.iterPos W.heap.size)
  case atStart =>
    refine ⟨0, 0, [], rfl, Nat.le_refl _, Nat.zero_le _, rfl, World.iter_heap W t 0, hb.alloc _, hJ [] _ _ none h0 (World.grownBy_alloc W _ none) (fun r e => by cases e)⟩
  case round =>
    obtain ⟨pos, s, pre, rfl, hsp, hpt, hls, hit, hB, hJp⟩ := hrel
    have hcr := hB.cell
    clear hb hc
    by_cases hp : pos < t.size
    · have hnx : ∀ ty, (Instr.next (.pointer (some ⟨W.heap.size, 0, none⟩)) true ty).run Try.prog wr = _ := fun ty => Lib.run_next_any_at wr W.heap.size t pos ty hit hp
      by_cases h10 : bt t (pos : Int) = 10
      · obtain ⟨hd, hl2⟩ := lns_round10 t s pos hp h10
        rw [hd] at hnx
        dsimp only at hnx
        obtain ⟨x, hx⟩ : ∃ x : Ln t, x.1 = (s, pos) := ⟨⟨(s, pos), hsp, hpt⟩, rfl⟩
        have hlen : pre.length < (lns t).length := by rw [hls, hl2, List.length_append, List.length_map, List.length_cons]; omega
        have hit2 := Lib.iterAt_heap wr W.heap.size t pos (pos + 1) hit
        have hJ2 := hJ pre wr _ (some W.heap.size) hJp (iterAt_grown wr W.heap.size t (pos + 1)) (fun r e => by cases e; exact ⟨Nat.le_refl _, _, hit, rfl⟩)
        have hB2 := hB.kept (iterAt_grown wr W.heap.size t (pos + 1)) (fun e => by cases e; omega)
        have hYx := hY pre x _ hJ2 hlen ⟨_, (by rw [ln_snoc, hls, hl2, List.append_assoc, hx]; rfl : lns t = (pre ++ [x]).map Subtype.val ++ lnsD t (t.size - (pos + 1)) (pos + 1) (pos + 1)).symm⟩
        rw [lnV, hx] at hYx
        dsimp only at hYx
        obtain ⟨fn, tmps, assign, body, hy, hR⟩ := hYx
        have hls2 : lns t = (pre ++ [x]).map Subtype.val ++ lnsD t (t.size - (pos + 1)) (pos + 1) (pos + 1) := by rw [ln_snoc, hls, hl2, List.append_assoc, hx]; rfl
        have HL := Aside0.mk hls2
        have HM := Aside0.mk hit
        have HR := Aside0.mk hR
        have HIT := Aside0.mk hit2
        have HB2 := Aside0.mk hB2
        have HY := Aside0.mk hY
        have HJ := Aside0.mk hJ
        clear hls hl2 hls2 hlen hx hJ2 hJp hd hit h10 hR hit2 hB2 hB hY hJ hJx h0 hsp
        gi_wp2
        refine HR.out.mono ?_
        rintro e W3 (⟨rfl, hJ3, hk3⟩ | ⟨rfl, hJx3⟩)
        · have hit3 := hk3.2.same _ _ HIT.out rfl
          gi_wp2
          go_roundw
          case rel => exact ⟨pos + 1, pos + 1, pre ++ [x], by simp, Nat.le_refl _, by omega, HL.out, hit3, hk3.1 HB2.out, hJ3⟩
          case measure =>
            simp only [World.iterPos, hit3, HM.out]
            omega
        · gi_wp2
          refine bodyPost_ret (results_none rfl _ _ _) rfl ?_
          exact ⟨⟨_, rfl⟩, .inr ⟨_, ⟨_, HL.out.symm⟩, hJx3⟩⟩
      · obtain ⟨hd1, hd2, hd3, hl2⟩ := lns_round t s pos hp h10
        have hw := decode_le t pos
        have hit2 := Lib.iterAt_heap wr W.heap.size t pos (pos + (Utf8.decode t pos).2) hit
        have hJ2 := hJ pre wr _ (some W.heap.size) hJp (iterAt_grown wr W.heap.size t (pos + (Utf8.decode t pos).2)) (fun r e => by cases e; exact ⟨Nat.le_refl _, _, hit, rfl⟩)
        have hB2 := hB.kept (iterAt_grown wr W.heap.size t (pos + (Utf8.decode t pos).2)) (fun e => by cases e; omega)
        rw [hl2] at hls
        have HL := Aside0.mk hls
        have HM := Aside0.mk hit
        have HIT := Aside0.mk hit2
        have HB2 := Aside0.mk hB2
        have HJ2 := Aside0.mk hJ2
        have H1 := Aside0.mk hd1
        have H2 := Aside0.mk hd2
        have HS := Aside0.mk hsp
        obtain ⟨c, hc32⟩ : ∃ c : Int, c = ((Utf8.decode t pos).1 : Int) := ⟨_, rfl⟩
        rw [← hc32] at hnx
        have hc10 : c ≠ 10 := by omega
        generalize (Utf8.decode t pos).2 = q at hnx HL HIT HB2 HJ2 H1 H2 ⊢
        clear hls hl2 hit hit2 hJ2 hB2 hd1 hd2 hd3 hJp hc32 hw h10 hY hJ hJx h0 hsp hB
        gi_wp2
        go_roundw
        case rel => exact ⟨pos + q, s, pre, rfl, by have := HS.out; omega, H2.out, HL.out, HIT.out, HB2.out, HJ2.out⟩
        case measure =>
          have h1 := H1.out
          simp only [World.iterPos, HIT.out, HM.out]
          omega
    · have hnx : ∀ ty, (Instr.next (.pointer (some ⟨W.heap.size, 0, none⟩)) true ty).run Try.prog wr = _ := fun ty => Lib.run_next_end_at wr W.heap.size t pos ty hit hp
      obtain rfl : pos = t.size := by omega
      by_cases hst : s < t.size
      · obtain ⟨x, hx⟩ : ∃ x : Ln t, x.1 = (s, t.size) := ⟨⟨(s, t.size), hsp, hpt⟩, rfl⟩
        rw [Nat.sub_self, lnsD, if_pos hst] at hls
        have hlen : pre.length < (lns t).length := by rw [hls, List.length_append, List.length_map, List.length_cons]; omega
        have hYx := hY pre x _ hJp hlen ⟨[], by rw [List.append_nil, ln_snoc, hls, hx]⟩
        rw [lnV, hx] at hYx
        dsimp only at hYx
        obtain ⟨fn, tmps, assign, body, hy, hR⟩ := hYx
        have hls2 : (pre ++ [x]).map Subtype.val = lns t := by rw [ln_snoc, hls, hx]
        have HL := Aside0.mk hls2
        have HR := Aside0.mk hR
        clear hls hls2 hlen hx hJp hit hR hY hJ hJx h0 hsp
        gi_wp2
        refine HR.out.mono ?_
        rintro e W3 (⟨rfl, hJ3, hk3⟩ | ⟨rfl, hJx3⟩)
        · gi_wp2
          go_end0
          exact ⟨⟨_, rfl⟩, .inl ⟨_, HL.out, hJ3⟩⟩
        · gi_wp2
          go_end0
          exact ⟨⟨_, rfl⟩, .inr ⟨_, ⟨[], by rw [HL.out, List.append_nil]⟩, hJx3⟩⟩
      · rw [Nat.sub_self, lnsD, if_neg hst, List.append_nil] at hls
        have HL := Aside0.mk hls
        clear hls hit hY hJ hJx h0
        gi_wp2
        go_end0
        exact ⟨⟨_, rfl⟩, .inl ⟨_, HL.out.symm, hJp⟩⟩
/-- the iterator's contract -/
theorem ends_stops (F : Fence) (n : Nat) (h31 : F.fn 31) (hro : F.round = none) (hn : 1 ≤ n) (Bt : Nat) (t : ByteArray) (ht : t.size ≤ 140737488351232) (w : World) (hb : Boxed w Bt 9 (.string t)) :
    SeqStopsK F n Try.prog 31 #[.pointer (some ⟨Bt, 0, none⟩)] (fun x : Ln t => lnV x) (EK Bt t) (fun ys => ys.map Subtype.val = lns t) (fun pre => pre.map Subtype.val <+: lns t) (lns t).length w := fun l J Jx W hW hJ hJx hY h0 =>
  ends1_in F n h31 hro hn l Bt t ht J Jx W hJ hJx (fun pre x W1 h1 h2 _ => hY pre x W1 h1 h2) ((hW.block Bt hb.lt).trans hb) h0
set_option maxHeartbeats 4000000 in
theorem ends_in (F : Fence) (n : Nat) (h29 : F.fn 29) (hro : F.round = none) (t : ByteArray) (w : World) :
    CallsIn F n Try.prog 29 #[.string t] w fun e w' => e = .returned (.func (.func 31) #[] #[.pointer (some ⟨w.heap.size, 0, none⟩)]) ∧ w' = w.alloc (.cells #[.string t] 9) := by
  refine callsIn_of_wp Try.func29 rfl h29 ?_ hro
  simp only [Try.ntmps29, List.size_toArray, List.length_cons, List.length_nil, Nat.reduceAdd, Nat.reduceSub, Array.replicate_succ, Array.replicate_zero, List.push_toArray, List.append_toArray, List.nil_append, List.cons_append]
  gi_wp2
  go_ret
  exact ⟨rfl, rfl⟩
end Go.Proofs.Ytbcggfjfgoabpaa.P

end
section
/- A region of a round's body that draws its order: walked as in a plain frame. -/
namespace Go.Proofs.Ytbcggfjfgoabpaa.P
open Go Go.RowKit
set_option linter.unusedVariables false

section
variable {P : Program} {ops : Array Oper} {Q : Exit → Act → World → Prop} {md : Region.Mode} {l n : Nat}
/-- no operation is a defer statement -/
def undeferred (ops : Array Oper) : Bool := ops.toList.all fun o => match o.op with | .defer _ => false | _ => true
theorem undeferred_of (h : undeferred ops = true) : ∀ o ∈ ops.toList, ∀ c, o.op ≠ .defer c := by
  intro o ho c hc
  have := List.all_eq_true.1 h o ho
  rw [hc] at this
  cases this
theorem rows_round {row : String} {args : Array Value} {w : World} {R : Value → World → Prop} (h : Rows P row args w R) : RowsIn (Fence.wide.inRound l) n P row args w R :=
  fun c cs _ => let ⟨v, w', r, s⟩ := h c cs; ⟨v, w', r, stepsIn_wide.2 s⟩
theorem upon_round {o : Oper} {a : Act} {K K' : Act → World → Prop} (hK : ∀ a w, K a w → K' a w) (r : Result Next) (h : o.upon P a K Q r) : o.uponIn (Fence.wide.inRound l) n P a K' Q r := by
  cases r with
  | ok x w' =>
    cases x <;> simp only [Oper.upon] at h
    case value v => exact hK _ _ h
    case skip => exact hK _ _ h
    case defer d => exact hK _ _ h
    case enter f args =>
      refine ⟨(fun h0 => by cases h0), ?_⟩
      refine (CallsIn.inRound l (callsIn_wide.2 h)).mono ?_
      rintro e w'' he
      cases e with
      | returned v => exact hK _ _ he
      | panicked c => exact he
      | outgrown => exact he
    case row row args => exact ⟨(fun h0 => by cases h0), (rows_round h).mono (fun _ _ he => hK _ _ he)⟩
  | halt x w' => cases x <;> simp only [Oper.upon] at h <;> exact h
theorem op_round {i : Nat} {K K' : Act → World → Prop} {a : Act} {w : World} (hd : ∀ o ∈ ops.toList, ∀ c, o.op ≠ .defer c) (hl : ¬ LetsOut Q) (hK : ∀ a w, K a w → K' a w) (h : wpOp P ops Q i K a w) : wpOpIn (Fence.wide.inRound l) n P ops Q i K' a w := by
  unfold wpOp at h
  unfold wpOpIn
  cases ho : ops[i]? with
  | none => rw [ho] at h; exact hK _ _ h
  | some o =>
    rw [ho] at h
    dsimp only at h ⊢
    by_cases hw : Region.wanted o (yielded ops a.tmps) = true
    · rw [if_pos hw] at h ⊢
      refine ⟨fun _ _ => trivial, ?_⟩
      rw [show (Fence.wide.inRound l).round = some l from rfl, Oper.semAt_some l _ _ (hd o (by obtain ⟨h1, h2⟩ := Array.getElem?_eq_some_iff.1 ho; rw [← h2]; exact Array.getElem_mem_toList h1))]
      rcases h with h | ⟨_, h⟩
      · exact upon_round hK _ h
      · exact (hl h).elim
    · rw [if_neg hw] at h ⊢
      exact ⟨fun _ _ => trivial, hK _ _ h⟩
theorem any_round (hd : undeferred ops = true) (hl : ¬ LetsOut Q) : ∀ (fuel : Nat) (listed : Array Bool) (a : Act) (w : World), wpAny P md ops Q fuel listed a w → wpAnyIn (Fence.wide.inRound l) n P md ops Q fuel listed a w
  | 0, _, _, _, h => h
  | fuel + 1, _, _, _, h => ⟨h.1, fun i hi => op_round (undeferred_of hd) hl (fun a' w' h' => any_round hd hl fuel _ a' w' h') (h.2 i hi)⟩
end
end Go.Proofs.Ytbcggfjfgoabpaa.P

end
section
/- Loops over iterators, where the iterator itself loops over one: a round keeps every block that the iterator has laid. -/
namespace Go.Proofs.Ytbcggfjfgoabpaa.P
open Go Go.RowKit Go.Shelf
set_option linter.unusedVariables false

/-- a loop's record -/
def lrec (fn : FuncId) (tmps : Array Value) (ps : Array Tmp) (assign body : Code) (D : Nat) (st : LoopState) (pe : Option Code) : Loop := { state := st, pending := pe, fn := fn, tmps := tmps, params := ps, assign := assign, body := body, defers := D }
/-- how a round may be left -/
def roundOut (l : Nat) (rc : LoopState → Option Code → Loop) (R : Ending → World → Prop) : Exit → Act → World → Prop
  | .normal, _, W => W.heap[l]? = some (.loop (rc .busy none)) ∧ R (.returned (.bool true)) (W.putObj l (.loop (rc .ready none)))
  | .ret, _, W => W.heap[l]? = some (.loop (rc .busy none)) ∧ R (.returned (.bool false)) (W.putObj l (.loop (rc .done (some .ret))))
  | .exit id, _, W => W.heap[l]? = some (.loop (rc .busy none)) ∧ R (.returned (.bool false)) (W.putObj l (.loop (rc .done (some (.exit id)))))
  | _, _, _ => False
section
variable {F : Fence} {n : Nat} {P : Program}
/-- a call of yield, out of the walk of the round's code -/
theorem yield_round {l : Nat} {fn : FuncId} {tmps : Array Value} {ps : Array Tmp} {assign body : Code} {D : Nat} {args : Array Value} {W : World} {R : Ending → World → Prop} (hF : F.fn fn)
    (hl : W.heap[l]? = some (.loop (lrec fn tmps ps assign body D .ready none))) (hps : args.size = ps.size)
    (h : assign.wpIn (F.inRound l) n P (Exit.then (fun a W1 => W1.heap[l]? = some (.loop (lrec fn tmps ps assign body D .ready none)) ∧
      body.wpIn (F.inRound l) n P (roundOut l (lrec fn tmps ps assign body D) R) a (W1.putObj l (.loop (lrec fn tmps ps assign body D .busy none)))) (fun _ _ _ => False))
      { tmps := (ps.zip args).foldl (fun t (p, v) => t.setIfInBounds p v) tmps, defers := [] } W) : YieldAt F n P l args W R := by
  refine ⟨fn, _, assign, body, run_yield hl hps, roundIn_of_wpIn hF (Code.wpIn_mono ?_ h)⟩
  rintro e a1 W1 hq
  cases e with
  | normal =>
    obtain ⟨h1, h2⟩ := hq
    refine ⟨_, run_beginRound h1 rfl, Code.wpIn_mono ?_ h2⟩
    rintro e2 a2 W2 h3
    cases e2 with
    | normal => exact ⟨_, _, run_endRound none h3.1, h3.2⟩
    | ret => exact ⟨_, _, run_endRound (some .ret) h3.1, h3.2⟩
    | exit id => exact ⟨_, _, run_endRound (some (.exit id)) h3.1, h3.2⟩
    | goto t => exact h3.elim
    | panic c => exact h3.elim
    | outgrown => exact h3.elim
  | ret => exact hq
  | exit id => exact hq
  | goto t => exact hq
  | panic c => exact hq
  | outgrown => exact hq
/-- a loop over an iterator, out of the iterator's call -/
theorem loop_law {g : Operand} {ps : Array Tmp} {assign body : Code} {Q : Exit → Act → World → Prop} {a : Act} {w : World} {gf : Nat} {lb : Array Value} {l : Nat} {mark : List Deferred} (h1 : 1 ≤ n)
    (hg : a.eval g = .func (.func gf) #[] lb) (hFg : F.fn gf) (eg : ∀ args w, (callFunc gf args).run P w = .ok (.enter gf args) w)
    (h : ∀ fn, F.fn fn → ∃ W1 D, (Instr.enterLoop fn a.tmps ps assign body F.round).run P w = .ok (l, mark) W1 ∧
      CallsIn F (n - 1) P gf (#[.func (.yield l) #[] #[]] ++ lb) W1 fun e W2 => (∃ v, e = .returned v) ∧ ∃ st pe, st ≠ .busy ∧ W2.heap[l]? = some (.loop (lrec fn a.tmps ps assign body D st pe)) ∧
        (match pe with
         | none => Q .normal { a with defers := mark ++ a.defers } (W2.putObj l (.loop (lrec fn a.tmps ps assign body D .exhausted pe)))
         | some c => c.wpIn F n P Q { a with defers := mark ++ a.defers } (W2.putObj l (.loop (lrec fn a.tmps ps assign body D .exhausted pe))))) :
    (Code.rangeFunc g ps assign body).wpIn F n P Q a w := by
  refine wpIn_rangeFunc fun fn hfn => ?_
  obtain ⟨W1, D, he, hc⟩ := h fn hfn
  refine ⟨l, mark, W1, { target := .fn (.func gf) lb, args := #[.func (.yield l) #[] #[]] }, W1, gf, #[.func (.yield l) #[] #[]] ++ lb, W1, he, ?_, ?_, ?_, fun _ => h1, ?_⟩
  · simp only [resolve, hg]
    simp [go_sem]
  · intro f' hf'
    simp [Target.leads] at hf'
    subst hf'
    exact hFg
  · simp [invoke, go_sem, eg]
  · refine CallsIn.mono hc ?_
    rintro e W2 ⟨⟨v, rfl⟩, st, pe, hst, hl, hq⟩
    show ∃ jump W4, (Instr.endLoop l).run P W2 = .ok jump W4 ∧ _
    have he2 := run_endLoop (P := P) hl hst
    refine ⟨pe, _, he2, ?_⟩
    cases pe with
    | none => exact hq
    | some c => exact hq
/-- an outermost loop: its record by a letter -/
theorem loop_outer {g : Operand} {ps : Array Tmp} {assign body : Code} {Q : Exit → Act → World → Prop} {a : Act} {w : World} {gf : Nat} {lb : Array Value} (hro : F.round = none) (h1 : 1 ≤ n)
    (hg : a.eval g = .func (.func gf) #[] lb) (hFg : F.fn gf) (eg : ∀ args w, (callFunc gf args).run P w = .ok (.enter gf args) w)
    (h : ∀ fn rc, F.fn fn → rc = lrec fn a.tmps ps assign body w.heap.size →
      CallsIn F (n - 1) P gf (#[.func (.yield (w.heap.size + 1)) #[] #[]] ++ lb) ((w.alloc (.deferred (some []))).alloc (.loop (rc .ready none))) fun e W2 => (∃ v, e = .returned v) ∧ ∃ st pe, st ≠ .busy ∧ W2.heap[w.heap.size + 1]? = some (.loop (rc st pe)) ∧
        (match pe with
         | none => Q .normal { a with defers := { target := .collected w.heap.size, args := #[] } :: a.defers } (W2.putObj (w.heap.size + 1) (.loop (rc .exhausted pe)))
         | some c => c.wpIn F n P Q { a with defers := { target := .collected w.heap.size, args := #[] } :: a.defers } (W2.putObj (w.heap.size + 1) (.loop (rc .exhausted pe))))) :
    (Code.rangeFunc g ps assign body).wpIn F n P Q a w := by
  refine loop_law (l := w.heap.size + 1) (mark := [{ target := .collected w.heap.size, args := #[] }]) h1 hg hFg eg fun fn hfn => ?_
  refine ⟨_, w.heap.size, by rw [hro]; exact run_enterLoop_outer _ _ _ _ _, ?_⟩
  exact h fn _ hfn rfl
/-- a loop within a round -/
theorem loop_inner {g : Operand} {ps : Array Tmp} {assign body : Code} {Q : Exit → Act → World → Prop} {a : Act} {w : World} {gf : Nat} {lb : Array Value} {l0 : Nat} {r0 : Loop} (hro : F.round = some l0) (hr : w.heap[l0]? = some (.loop r0)) (h1 : 1 ≤ n)
    (hg : a.eval g = .func (.func gf) #[] lb) (hFg : F.fn gf) (eg : ∀ args w, (callFunc gf args).run P w = .ok (.enter gf args) w)
    (h : ∀ fn rc, F.fn fn → rc = lrec fn a.tmps ps assign body r0.defers →
      CallsIn F (n - 1) P gf (#[.func (.yield w.heap.size) #[] #[]] ++ lb) (w.alloc (.loop (rc .ready none))) fun e W2 => (∃ v, e = .returned v) ∧ ∃ st pe, st ≠ .busy ∧ W2.heap[w.heap.size]? = some (.loop (rc st pe)) ∧
        (match pe with
         | none => Q .normal a (W2.putObj w.heap.size (.loop (rc .exhausted pe)))
         | some c => c.wpIn F n P Q a (W2.putObj w.heap.size (.loop (rc .exhausted pe))))) :
    (Code.rangeFunc g ps assign body).wpIn F n P Q a w := by
  refine loop_law (l := w.heap.size) (mark := []) h1 hg hFg eg fun fn hfn => ?_
  refine ⟨_, r0.defers, by rw [hro]; exact run_enterLoop_inner hr _ _ _ _ _, ?_⟩
  exact h fn _ hfn rfl
/-- a call of yield, the record by a letter -/
theorem yield_rc {l : Nat} {fn : FuncId} {tmps : Array Value} {ps : Array Tmp} {assign body : Code} {D : Nat} {rc : LoopState → Option Code → Loop} {args : Array Value} {W : World} {R : Ending → World → Prop} (hF : F.fn fn)
    (hrc : rc = lrec fn tmps ps assign body D) (hl : W.heap[l]? = some (.loop (rc .ready none))) (hps : args.size = ps.size)
    (h : assign.wpIn (F.inRound l) n P (Exit.then (fun a W1 => W1.heap[l]? = some (.loop (rc .ready none)) ∧ body.wpIn (F.inRound l) n P (roundOut l rc R) a (W1.putObj l (.loop (rc .busy none)))) (fun _ _ _ => False))
      { tmps := (ps.zip args).foldl (fun t (p, v) => t.setIfInBounds p v) tmps, defers := [] } W) : YieldAt F n P l args W R := by
  subst hrc
  exact yield_round hF hl hps h
/-- what a loop's two blocks leave of the world -/
theorem enter_facts (w : World) (R : Loop) : ((w.alloc (.deferred (some []))).alloc (.loop R)).heap[w.heap.size + 1]? = some (.loop R) ∧ ((w.alloc (.deferred (some []))).alloc (.loop R)).heap[w.heap.size]? = some (.deferred (some [])) ∧
    (∀ k, k < w.heap.size → ((w.alloc (.deferred (some []))).alloc (.loop R)).heap[k]? = w.heap[k]?) ∧ ((w.alloc (.deferred (some []))).alloc (.loop R)).heap.size = w.heap.size + 2 := by
  refine ⟨?_, ?_, fun k hk => ?_, by simp⟩
  · have := World.alloc_heap_new (w.alloc (.deferred (some []))) (.loop R); rwa [World.size_alloc] at this
  · exact (Below.heap_alloc _ _ _ (by simp)).trans (World.alloc_heap_new w _)
  · exact (Below.heap_alloc _ _ _ (by simp; omega)).trans (Below.heap_alloc _ _ _ hk)
theorem round_any {m m' : Nat} {l : Nat} {f : FuncId} {tmps : Array Value} {assign body : Code} {w : World} {R : Ending → World → Prop} (hd : F.depth = none) (h : RoundIn F m P l f tmps assign body w R) : RoundIn F m' P l f tmps assign body w R :=
  ⟨h.1, fun c cs _ => h.2 c cs (fun d hd' => by rw [hd] at hd'; cases hd')⟩
theorem any_in {ops : Array Oper} {Q : Exit → Act → World → Prop} {md : Region.Mode} {l : Nat} (hro : F.round = none) (hd : undeferred ops = true) : ∀ (fuel : Nat) (listed : Array Bool) (a : Act) (w : World), wpAnyIn F n P md ops Q fuel listed a w → wpAnyIn (F.inRound l) n P md ops Q fuel listed a w
  | 0, _, _, _, h => h
  | fuel + 1, listed, a, w, h => ⟨h.1, fun i hi => by
      have h2 := wpOpIn_mono (fun a' w' h' => any_in (l := l) hro hd fuel _ a' w' h') (h.2 i hi)
      unfold wpOpIn at h2 ⊢
      cases ho : ops[i]? with
      | none => rw [ho] at h2; exact h2
      | some o =>
        rw [ho] at h2
        dsimp only at h2 ⊢
        by_cases hw : Region.wanted o (yielded ops a.tmps) = true
        · rw [if_pos hw] at h2 ⊢
          refine ⟨h2.1, ?_⟩
          have hnd : ∀ c, o.op ≠ .defer c := undeferred_of hd o (by obtain ⟨h1, h2⟩ := Array.getElem?_eq_some_iff.1 ho; rw [← h2]; exact Array.getElem_mem_toList h1)
          have h3 := h2.2
          rw [Oper.semAt_eq _ _ _ hnd] at h3 ⊢
          exact h3
        · rw [if_neg hw] at h2 ⊢
          exact h2⟩
/-- a region that draws, that only reads, in a round -/
theorem round_quiet {id : Nat} {Q : Exit → Act → World → Prop} {a : Act} {w : World} {lp : Nat} {l : List Oper} (hro : F.round = none) (hm : P.follows .mixedOrders = true) (hB : Region.lexB .any l.toArray = true) (hd : undeferred l.toArray = true)
    (h : wpQuietIn F n P l.toArray (fun w' => ∃ n, w' = w.drewN n) (fun a' => ∀ w', (∃ n, w' = w.drewN n) → Q .normal a' w') l a) : (Code.region id l.toArray true).wpIn (F.inRound lp) n P Q a w := by
  simp only [Region.lexB, Bool.and_eq_true] at hB
  refine wpIn_region_any hm (any_in hro hd _ _ _ _ (wpAnyIn_of_quiet (C := fun w' => ∃ n, w' = w.drewN n) (Q := fun a' => ∀ w', (∃ n, w' = w.drewN n) → Q .normal a' w') hro (fun _ w' hw' h => h w' hw') _ _ _ _ ⟨1, rfl⟩ ?_))
  have := wpAnyQIn_lex (F := F) (n := n) (C := fun w' => ∃ n, w' = w.drewN n) (md := .any) hB.1 l 0 (Array.replicate l.toArray.size false) a (by simp) (by simpa using hB.2) h
  simpa using this
end
macro "gr_quiet " "(" tac:tactic ")" : tactic => `(tactic|
  (refine round_quiet rfl (by kernel_rfl) (by kernel_rfl) (by kernel_rfl) ?_
   repeat (quiet_step_in ($tac:tactic))
   refine wpQuietIn_nil ?_
   intro _ hw'
   obtain ⟨$(Lean.mkIdent `nq):ident, hw''⟩ := hw'
   subst hw''))
end Go.Proofs.Ytbcggfjfgoabpaa.P

end
section
/- lines.Lines: contract by hand. -/
namespace Go.Proofs.Ytbcggfjfgoabpaa.P
open Go.RowKit Go.Shelf Go.Proofs.YtbcggfjfgoabpaaW.PrintWords Go.Proofs.YtbcggfjfgoabpaaW.PrintLast
attribute [local go_sem] Oper.semAt_some
set_option linter.unusedVariables false
set_option linter.unusedSimpArgs false

theorem info9p : (Try.prog.info? 9).map (fun i => (i.zero, i.size, i.bytes)) = some (some (.string ⟨#[]⟩), 1, 16) := by kernel_rfl
/-- strings in a row of one's own -/
def strs (t : ByteArray) (pre : List (Ln t)) : List Value := pre.map (fun x => Value.string (lnT t x.1))
theorem strs_snoc {t : ByteArray} (pre : List (Ln t)) (x : Ln t) : strs t (pre ++ [x]) = strs t pre ++ [.string (lnT t x.1)] := by simp [strs]
theorem strs_length {t : ByteArray} (pre : List (Ln t)) : (strs t pre).length = pre.length := List.length_map ..
theorem R_of_owns {W : World} {base : Nat} {v : Value} (l : List ByteArray) (h : W.ownsRow base 9 1 v l.length (l.map Value.string)) : Kd.R Kd.string 9 W base (fun _ => True) v l :=
  ⟨fun _ _ => trivial, l.map Value.string, h, by rw [List.length_map, show Kd.string.sz = 1 from rfl, Nat.mul_one], fun j p hp => by
    show ((l.map Value.string).drop (j * 1)).take 1 = [Value.string p]
    obtain ⟨hj, rfl⟩ := List.getElem?_eq_some_iff.1 hp
    rw [Nat.mul_one, List.drop_eq_getElem_cons (by rw [List.length_map]; exact hj), List.getElem_map]
    rfl⟩
theorem row_far {W : World} {base e size k : Nat} {v : Value} {xs : List Value} (hr : W.ownsRow base e size v k xs) {B : Nat} (hB : B < base) : some B ≠ v.ownBlock := by
  rcases hr.2 with ⟨rfl, _⟩ | ⟨g, cap, cur, rfl, hg, _⟩
  · simp [Value.ownBlock]
  · intro e'
    obtain rfl : B = g := by simpa [Value.ownBlock] using e'
    omega
/-- an append into a boxed variable, the boxes lying below the row -/
theorem boxed_append {W w1 : World} {n₀ b0 Bl e size k m : Nat} {t : TypeId} {v v' : Value} {xs ys : List Value} {tmp : Obj} (hv : Boxed W Bl t v) (hrow : W.ownsRow b0 e size v k xs) (hn : n₀ ≤ Bl) (hl : Bl < b0) (hb : b0 ≤ W.heap.size)
    (hown' : w1.ownsRow b0 e size v' m ys) (hgrow : (W.alloc tmp).grownBy w1 v.ownBlock) :
    Boxed w1 Bl t v ∧ Boxed (w1.setCell ⟨Bl, 0, none⟩ v') Bl t v' ∧ (w1.setCell ⟨Bl, 0, none⟩ v').ownsRow b0 e size v' m ys ∧ KeepsOthers W (w1.setCell ⟨Bl, 0, none⟩ v') ∧ Below n₀ W (w1.setCell ⟨Bl, 0, none⟩ v') ∧
      (∀ B : Nat, B ≠ Bl → B < b0 → (w1.setCell ⟨Bl, 0, none⟩ v').heap[B]? = W.heap[B]?) := by
  have hv1 : Boxed w1 Bl t v := (hv.alloc tmp).kept hgrow (row_far hrow hl)
  refine ⟨hv1, hv1.set v', hown'.kept (grownBy_setCell' w1 Bl v') (.inr (row_far hown' hl).symm), ?_, ?_, ?_⟩
  · refine ((KeepsOthers.alloc W tmp).trans (KeepsOthers.of_grownBy hgrow fun j o ej hj => ?_)).trans (KeepsOthers.setCell _ _ _)
    rcases (hrow.alloc tmp).2 with ⟨rfl, _⟩ | ⟨g, cap, cur, rfl, _, hgb, _⟩
    · simp [Value.ownBlock] at ej
    · obtain rfl : g = j := by simpa [Value.ownBlock] using ej
      rw [hgb] at hj; cases hj; rfl
  · refine (((Below.refl n₀ W).alloc (by omega) tmp).grown hgrow (by simp; omega) fun j ej => ?_).setCell (p := ⟨Bl, 0, none⟩) hn v'
    rcases hrow.2 with ⟨rfl, _⟩ | ⟨g, cap, cur, rfl, hb, _, _⟩
    · simp [Value.ownBlock] at ej
    · obtain rfl : g = j := by simpa [Value.ownBlock] using ej
      omega
  · intro B hne hB
    exact (Below.heap_setCell w1 ⟨Bl, 0, none⟩ v' B hne).trans ((hgrow.block B (by simp; omega) (row_far hrow hB)).trans (Below.heap_alloc W tmp B (by omega)))
theorem ownsRow_lower {W : World} {base base' e size k : Nat} {v : Value} {xs : List Value} (hr : W.ownsRow base e size v k xs) (hb : base' ≤ base) : W.ownsRow base' e size v k xs :=
  ⟨hr.1, hr.2.imp id (fun ⟨g, cap, cur, h1, h2, h3⟩ => ⟨g, cap, cur, h1, by omega, h3⟩)⟩
/-- the boxed variable, and what it holds -/
def Held (Bl b0 : Nat) (xs : List Value) (W : World) : Prop := ∃ v, Boxed W Bl 34 v ∧ W.ownsRow b0 9 1 v xs.length xs
theorem held_own {β : Type} (Bl b0 : Nat) (f : β → List Value) : Own (fun s W => Held Bl b0 (f s) W) := by
  have h := holdsRow_own b0 Bl 34 9 1 (fun s : β => (f s).length) f (fun _ _ => True)
  rintro s A B row ⟨v, h1, h2⟩ hg hr
  obtain ⟨v, h1, h2, _⟩ := h s A B row ⟨v, h1, h2, trivial⟩ hg hr
  exact ⟨v, h1, h2⟩
theorem size_own {β : Type} (k : Nat) : Own (fun (_ : β) W => k ≤ W.heap.size) := fun _ _ _ _ hs hg _ => Nat.le_trans hs hg.size
set_option maxRecDepth 100000 in
set_option maxHeartbeats 4000000 in
theorem Lines_in (t : ByteArray) (w : World) (ht : t.size ≤ 4194304) :
    CallsIn Fence.wide 9 Try.prog 12 #[.string t] w fun e W' => ∃ v, e = .returned v ∧ W'.ownsRow w.heap.size 9 1 v (lns t).length (((lns t).map (lnT t)).map Value.string) ∧ Below w.heap.size w W' := by
  obtain ⟨i0, hi, hz0, hz1, hz2⟩ := info_parts info9p
  have hro : Fence.wide.round = none := rfl
  have hN : (lns t).length ≤ t.size + 1 := lnsD_length t t.size 0 0
  refine callsIn_of_wp_marks Try.func12 rfl trivial ?_ hro
  simp only [Try.ntmps12, List.size_toArray, List.length_cons, List.length_nil, Nat.reduceAdd, Nat.reduceSub, Array.replicate_succ, Array.replicate_zero, List.push_toArray, List.append_toArray, List.nil_append, List.cons_append]
  gi_wp2_with (refine ⟨trivial, ?_⟩; gi_at_call 29; refine (ends_in Fence.wide 8 trivial hro _ _).mono ?_; rintro e w' ⟨rfl, rfl⟩)
  have b1 := ((Boxed.new w 9 (.string t)).alloc (.cells #[.slice none 0 0] 34)).alloc (.cells #[.string t] 9)
  have b2 := (Boxed.new (w.alloc (.cells #[.string t] 9)) 34 (.slice none 0 0)).alloc (.cells #[.string t] 9)
  have b3 := Boxed.new ((w.alloc (.cells #[.string t] 9)).alloc (.cells #[.slice none 0 0] 34)) 9 (.string t)
  have hB0 : Below w.heap.size w (((w.alloc (.cells #[.string t] 9)).alloc (.cells #[.slice none 0 0] 34)).alloc (.cells #[.string t] 9)) := (((Below.refl _ w).alloc (Nat.le_refl _) _).alloc (by simp) _).alloc (by simp; omega) _
  rw [World.size_alloc] at b2
  rw [World.size_alloc, World.size_alloc] at b3
  have hsz : (((w.alloc (.cells #[.string t] 9)).alloc (.cells #[.slice none 0 0] 34)).alloc (.cells #[.string t] 9)).heap.size = w.heap.size + 1 + 1 + 1 := by simp
  generalize ((w.alloc (.cells #[.string t] 9)).alloc (.cells #[.slice none 0 0] 34)).alloc (.cells #[.string t] 9) = W0 at b1 b2 b3 hB0 hsz ⊢
  refine wpIn_rangeFunc_ownG hro (by decide) (gf := 31) (lb := #[.pointer (some ⟨w.heap.size + 1 + 1, 0, none⟩)]) rfl trivial (enters_of Try.func31 (by kernel_rfl) rfl)
    (ends_stops Fence.wide 8 trivial hro (by decide) (w.heap.size + 1 + 1) t (by omega) W0 b3) EK.t EK.b (Below.refl _ _) (fun _ => rfl)
    (fun pre W => (Held (w.heap.size + 1) (w.heap.size + 1 + 1 + 1) (strs t pre) W ∧ Boxed W w.heap.size 9 (.string t)) ∧ Below w.heap.size w W ∧ w.heap.size + 1 + 1 + 1 ≤ W.heap.size)
    (fun _ _ _ => False)
    (OwnFrom.and (OwnFrom.and ((held_own _ _ _).from _) ((boxed_own _ _ _).from _)) (OwnFrom.and (ownFrom_below (Nat.le_refl _) (by omega)) ((size_own _).from _)))
    (fun _ _ _ _ _ hs _ _ => hs)
    ⟨⟨⟨_, b2, World.ownsRow_nil _ _ _ _⟩, b1⟩, hB0, Nat.le_of_eq hsz.symm⟩
    (fun x => { tmps := #[.string t, .pointer (some ⟨w.heap.size, 0, none⟩), .slice none 0 0, .pointer (some ⟨w.heap.size + 1, 0, none⟩), .int .i64 (x.1.1 : Int), .int .i64 (x.1.2 : Int), .string t, .func (.func 31) #[] #[.pointer (some ⟨w.heap.size + 1 + 1, 0, none⟩)], .int .i64 (x.1.1 : Int), .int .i64 (x.1.2 : Int), undef, undef, undef, undef, undef, undef, undef, undef], defers := [] }) ?assign ?body ?done ?stop
  case assign =>
    intro l x W K hK
    dsimp only [lnV]
    gi_wp2
    exact hK
  case body =>
    rintro l pre x W ⟨⟨⟨v, hv, hrow⟩, hbt⟩, hB, hsW⟩ hlt
    have hx2 := x.2
    obtain ⟨⟨x1, x2⟩, hxx⟩ := x
    dsimp only at hx2
    obtain ⟨hx0, hx2⟩ := hx2
    have hc1 := hbt.cell
    have hc2 := hv.cell
    have hc3 := (hv.alloc (.cells #[.string (t.extract x1 x2)] 9)).cell
    have i1 : (x1 : Int) ≤ (x2 : Int) := by omega
    have i2 : (x2 : Int) ≤ (t.size : Int) := by omega
    obtain ⟨xs, hxs⟩ : ∃ xs, xs = strs t pre := ⟨_, rfl⟩
    rw [← hxs] at hrow
    have HXE := Aside0.mk hxs.symm
    have HXS := Aside0.mk (show xs.length + 1 ≤ 4194305 by rw [hxs, strs_length]; omega)
    clear hxs
    have HV := Aside0.mk hv
    have HR := Aside0.mk hrow
    have HBT := Aside0.mk hbt
    have HB := Aside0.mk hB
    have HSZ0 := Aside0.mk (show w.heap.size + 1 + 1 + 1 ≤ W.heap.size from hsW)
    have HSZ := Aside0.mk (show w.heap.size + 1 + 1 + 1 ≤ (W.alloc (.cells #[.string (t.extract x1 x2)] 9)).heap.size by have := HSZ0.out; simp; omega)
    clear hv hrow hbt hB
    refine wpIn_block ?_
    refine wpIn_region_any (by kernel_rfl) (any_round (by kernel_rfl) (fun ⟨_, _, h⟩ => h) _ _ _ _ ?_)
    change wpAny _ _ _ _ _ _ _ (World.drew _)
    refine wpAny_take (i := 2) (v := .int .i64 (x1 : Int)) rfl (by kernel_rfl) (by kernel_rfl) (by kernel_rfl) (fun _ _ _ h => h) (Or.inl ⟨by rfl, by (intro w; go_simp)⟩) ?_
    change wpAny _ _ _ _ _ _ (Act.put _ (some 12) _) _
    try simp only [Act.put, List.setIfInBounds_toArray, List.set_cons_zero, List.set_cons_succ]
    refine wpAny_take (i := 3) (v := .int .i64 (x2 : Int)) rfl (by kernel_rfl) (by kernel_rfl) (by kernel_rfl) (fun _ _ _ h => h) (Or.inl ⟨by rfl, by (intro w; go_simp)⟩) ?_
    change wpAny _ _ _ _ _ _ (Act.put _ (some 13) _) _
    try simp only [Act.put, List.setIfInBounds_toArray, List.set_cons_zero, List.set_cons_succ]
    refine wpAny_ready (rs := [0, 1]) (by kernel_rfl) (by simp) ?_
    refine AllReady.cons rfl (fun K hK => ?_) (AllReady.cons rfl (fun K hK => ?_) AllReady.nil)
    · go_simp
      refine hK _ _ ?_
      clear hK K
      try simp only [Act.put, List.setIfInBounds_toArray, List.set_cons_zero, List.set_cons_succ]
      refine wpAny_ready (rs := [1]) (by kernel_rfl) (by simp) ?_
      refine AllReady.cons rfl (fun K hK => ?_) AllReady.nil
      go_simp
      refine hK _ _ ?_
      clear hK K
      try simp only [Act.put, List.setIfInBounds_toArray, List.set_cons_zero, List.set_cons_succ]
      refine wpAny_take (i := 4) (v := .string (t.extract x1 x2)) rfl (by kernel_rfl) (by kernel_rfl) (by kernel_rfl) (fun _ _ _ h => h) (Or.inl ⟨by rfl, by (intro w; go_simp)⟩) ?_
      change wpAny _ _ _ _ _ _ (Act.put _ (some 14) _) _
      try simp only [Act.put, List.setIfInBounds_toArray, List.set_cons_zero, List.set_cons_succ]
      refine wpAny_ready (rs := [5]) (by kernel_rfl) (by simp) ?_
      refine AllReady.cons rfl (fun K hK => ?_) AllReady.nil
      go_simp
      refine hK _ _ ?_
      clear hK K
      try simp only [Act.put, List.setIfInBounds_toArray, List.set_cons_zero, List.set_cons_succ]
      refine wpAny_ready (rs := [6]) (by kernel_rfl) (by simp) ?_
      refine AllReady.cons rfl (fun K hK => ?_) AllReady.nil
      rw [if_pos (by rfl)]
      refine wp_append_own _ (.tmp 10) (.tmp 15) 34 rfl (w.heap.size + 1 + 1 + 1) 9 i0 (.string ⟨#[]⟩) 1 16 Try.underlying34 hi hz0 hz1 hz2 rfl (by decide) v xs.length xs rfl (HR.out.alloc _) ⟨W.heap.size, 0, none⟩ 1 1 [.string (t.extract x1 x2)] rfl rfl (cell_one_new _ _ _) (by simp [Value.oneCell']) (by have := HXS.out; simp only [maxLen]; omega) (by have := HXS.out; omega) (HSZ.out) ?_
      intro v' w1 hown' hgrow _
      obtain ⟨g', cap', rfl⟩ := ownsRow_succ hown'
      have HA := Aside0.mk (boxed_append (n₀ := w.heap.size) HV.out HR.out (by omega) (by omega) (by have := HSZ0.out; omega) hown' ⟨hgrow.os, hgrow.tape, hgrow.output, hgrow.size, hgrow.block⟩)
      have hd1 := HA.out.1.cell
      have hd2 := HA.out.1.frozen
      clear hown' hgrow
      refine hK _ _ ?_
      clear hK K
      change wpAny _ _ _ _ _ _ (Act.put _ (some 16) _) _
      try simp only [Act.put, List.setIfInBounds_toArray, List.set_cons_zero, List.set_cons_succ]
      refine wpAny_ready (rs := [7]) (by kernel_rfl) (by simp) ?_
      refine AllReady.cons rfl (fun K hK => ?_) AllReady.nil
      go_simp
      refine hK _ _ ?_
      clear hK K
      refine wpAny_done (by kernel_rfl) ?_ _
      obtain ⟨a1, a2, a3, a4, a5, a6⟩ := HA.out
      refine ⟨a4.from _, ⟨fun hb => (a6 _ (by omega) (by omega)).trans hb, a4.walks⟩, ⟨⟨_, a2, ?_⟩, (a6 _ (by omega) (by omega)).trans HBT.out⟩, HB.out.trans a5, Nat.le_trans HSZ0.out a4.size⟩
      rw [strs_snoc, HXE.out]
      simpa [lnT] using a3
    · go_simp
      refine hK _ _ ?_
      clear hK K
      try simp only [Act.put, List.setIfInBounds_toArray, List.set_cons_zero, List.set_cons_succ]
      refine wpAny_take (i := 4) (v := .string (t.extract x1 x2)) rfl (by kernel_rfl) (by kernel_rfl) (by kernel_rfl) (fun _ _ _ h => h) (Or.inl ⟨by rfl, by (intro w; go_simp)⟩) ?_
      change wpAny _ _ _ _ _ _ (Act.put _ (some 14) _) _
      try simp only [Act.put, List.setIfInBounds_toArray, List.set_cons_zero, List.set_cons_succ]
      refine wpAny_ready (rs := [0, 5]) (by kernel_rfl) (by simp) ?_
      refine AllReady.cons rfl (fun K hK => ?_) (AllReady.cons rfl (fun K hK => ?_) AllReady.nil)
      · go_simp
        refine hK _ _ ?_
        clear hK K
        try simp only [Act.put, List.setIfInBounds_toArray, List.set_cons_zero, List.set_cons_succ]
        refine wpAny_ready (rs := [5]) (by kernel_rfl) (by simp) ?_
        refine AllReady.cons rfl (fun K hK => ?_) AllReady.nil
        go_simp
        refine hK _ _ ?_
        clear hK K
        try simp only [Act.put, List.setIfInBounds_toArray, List.set_cons_zero, List.set_cons_succ]
        refine wpAny_ready (rs := [6]) (by kernel_rfl) (by simp) ?_
        refine AllReady.cons rfl (fun K hK => ?_) AllReady.nil
        rw [if_pos (by rfl)]
        refine wp_append_own _ (.tmp 10) (.tmp 15) 34 rfl (w.heap.size + 1 + 1 + 1) 9 i0 (.string ⟨#[]⟩) 1 16 Try.underlying34 hi hz0 hz1 hz2 rfl (by decide) v xs.length xs rfl (HR.out.alloc _) ⟨W.heap.size, 0, none⟩ 1 1 [.string (t.extract x1 x2)] rfl rfl (cell_one_new _ _ _) (by simp [Value.oneCell']) (by have := HXS.out; simp only [maxLen]; omega) (by have := HXS.out; omega) (HSZ.out) ?_
        intro v' w1 hown' hgrow _
        obtain ⟨g', cap', rfl⟩ := ownsRow_succ hown'
        have HA := Aside0.mk (boxed_append (n₀ := w.heap.size) HV.out HR.out (by omega) (by omega) (by have := HSZ0.out; omega) hown' ⟨hgrow.os, hgrow.tape, hgrow.output, hgrow.size, hgrow.block⟩)
        have hd1 := HA.out.1.cell
        have hd2 := HA.out.1.frozen
        clear hown' hgrow
        refine hK _ _ ?_
        clear hK K
        change wpAny _ _ _ _ _ _ (Act.put _ (some 16) _) _
        try simp only [Act.put, List.setIfInBounds_toArray, List.set_cons_zero, List.set_cons_succ]
        refine wpAny_ready (rs := [7]) (by kernel_rfl) (by simp) ?_
        refine AllReady.cons rfl (fun K hK => ?_) AllReady.nil
        go_simp
        refine hK _ _ ?_
        clear hK K
        refine wpAny_done (by kernel_rfl) ?_ _
        obtain ⟨a1, a2, a3, a4, a5, a6⟩ := HA.out
        refine ⟨a4.from _, ⟨fun hb => (a6 _ (by omega) (by omega)).trans hb, a4.walks⟩, ⟨⟨_, a2, ?_⟩, (a6 _ (by omega) (by omega)).trans HBT.out⟩, HB.out.trans a5, Nat.le_trans HSZ0.out a4.size⟩
        rw [strs_snoc, HXE.out]
        simpa [lnT] using a3
      · go_simp
        refine hK _ _ ?_
        clear hK K
        try simp only [Act.put, List.setIfInBounds_toArray, List.set_cons_zero, List.set_cons_succ]
        refine wpAny_ready (rs := [0]) (by kernel_rfl) (by simp) ?_
        refine AllReady.cons rfl (fun K hK => ?_) AllReady.nil
        go_simp
        refine hK _ _ ?_
        clear hK K
        try simp only [Act.put, List.setIfInBounds_toArray, List.set_cons_zero, List.set_cons_succ]
        refine wpAny_ready (rs := [6]) (by kernel_rfl) (by simp) ?_
        refine AllReady.cons rfl (fun K hK => ?_) AllReady.nil
        rw [if_pos (by rfl)]
        refine wp_append_own _ (.tmp 10) (.tmp 15) 34 rfl (w.heap.size + 1 + 1 + 1) 9 i0 (.string ⟨#[]⟩) 1 16 Try.underlying34 hi hz0 hz1 hz2 rfl (by decide) v xs.length xs rfl (HR.out.alloc _) ⟨W.heap.size, 0, none⟩ 1 1 [.string (t.extract x1 x2)] rfl rfl (cell_one_new _ _ _) (by simp [Value.oneCell']) (by have := HXS.out; simp only [maxLen]; omega) (by have := HXS.out; omega) (HSZ.out) ?_
        intro v' w1 hown' hgrow _
        obtain ⟨g', cap', rfl⟩ := ownsRow_succ hown'
        have HA := Aside0.mk (boxed_append (n₀ := w.heap.size) HV.out HR.out (by omega) (by omega) (by have := HSZ0.out; omega) hown' ⟨hgrow.os, hgrow.tape, hgrow.output, hgrow.size, hgrow.block⟩)
        have hd1 := HA.out.1.cell
        have hd2 := HA.out.1.frozen
        clear hown' hgrow
        refine hK _ _ ?_
        clear hK K
        change wpAny _ _ _ _ _ _ (Act.put _ (some 16) _) _
        try simp only [Act.put, List.setIfInBounds_toArray, List.set_cons_zero, List.set_cons_succ]
        refine wpAny_ready (rs := [7]) (by kernel_rfl) (by simp) ?_
        refine AllReady.cons rfl (fun K hK => ?_) AllReady.nil
        go_simp
        refine hK _ _ ?_
        clear hK K
        refine wpAny_done (by kernel_rfl) ?_ _
        obtain ⟨a1, a2, a3, a4, a5, a6⟩ := HA.out
        refine ⟨a4.from _, ⟨fun hb => (a6 _ (by omega) (by omega)).trans hb, a4.walks⟩, ⟨⟨_, a2, ?_⟩, (a6 _ (by omega) (by omega)).trans HBT.out⟩, HB.out.trans a5, Nat.le_trans HSZ0.out a4.size⟩
        rw [strs_snoc, HXE.out]
        simpa [lnT] using a3
  case done =>
    rintro D ys W hD hys ⟨⟨⟨v, hv, hrow⟩, hbt⟩, hB, hsW⟩ hK
    have hc := hv.cell
    gi_wp2
    refine ⟨by simp, .inl ⟨_, _, rfl, run_takeDeferred hK, ?_⟩⟩
    refine ⟨_, results_tmp rfl _ _ _, v, rfl, ?_, hB.trans (belowK_b (w := w) (Nat.le_refl _) W D _ _ (by omega) hK rfl rfl)⟩
    have h9 := ownsRow_putObj hrow (.deferred none) hK rfl
    have e1 : strs t ys = ((lns t).map (lnT t)).map Value.string := by rw [← hys, List.map_map, List.map_map]; rfl
    have e2 : (strs t ys).length = (lns t).length := by rw [strs_length, ← hys, List.length_map]
    rw [e2, e1] at h9
    exact ownsRow_lower h9 (by omega)
  case stop =>
    rintro D c pre W _ _ h _
    exact h.elim
theorem map_str (l : List (Nat × Nat)) (t : ByteArray) : (l.map (lnT t)).length = l.length := List.length_map ..
/-- what Lines answers -/
def lines_Lines.f (t : ByteArray) : Option (List ByteArray) := if t.size ≤ 4194304 then some ((lns t).map (lnT t)) else none
theorem lines_Lines.calls (a0 : ByteArray) (r : List ByteArray) (w : World) (h : lines_Lines.f a0 = some r) :
    Calls Try.prog 12 #[.string a0] w fun e w' => ∃ v0_ : Value, e = .returned (v0_) ∧ Kd.R Kd.string 9 w' w.heap.size (fun _ => True) v0_ r ∧ Below w.heap.size w w' := by
  unfold lines_Lines.f at h
  by_cases ht : a0.size ≤ 4194304
  · rw [if_pos ht] at h
    injection h with h
    subst h
    refine (callsIn_wide.1 (Lines_in a0 w ht)).mono ?_
    rintro e W' ⟨v, rfl, ho, hB⟩
    refine ⟨v, rfl, R_of_owns _ ?_, hB⟩
    rw [map_str]
    exact ho
  · rw [if_neg ht] at h
    cases h
end Go.Proofs.Ytbcggfjfgoabpaa.P

end
section
/- lines.All and its closure: an iterator over an iterator (printed by HAll.gen.py). -/
namespace Go.Proofs.Ytbcggfjfgoabpaa.P
open Go.RowKit Go.Shelf Go.Proofs.YtbcggfjfgoabpaaW.PrintWords Go.Proofs.YtbcggfjfgoabpaaW.PrintLast
attribute [local go_sem] Oper.semAt_some
set_option linter.unusedVariables false
set_option linter.unusedSimpArgs false

/-- a line with its place -/
def allV {t : ByteArray} (off : Int) (x : Ln t) : Array Value := #[.int .i64 (wrap64 (off + (x.1.1 : Int))), .string (lnT t x.1)]
/-- a round keeps all that lies at or behind B, and walks -/
def KA (B : Nat) (X Y : World) : Prop := (∀ k o, B ≤ k → X.heap[k]? = some o → Y.heap[k]? = some o) ∧ KeepsWalks X Y
theorem KA.drew {B : Nat} {X Y : World} (h : KA B X.drew Y) : KA B X Y := ⟨fun k o hk ho => h.1 k o hk ho, ⟨h.2.size, fun k o hk ho => h.2.same k o hk ho⟩⟩
theorem blk_lt_any {W : World} {k : Nat} {o : Obj} (h : W.heap[k]? = some o) : k < W.heap.size := (Array.getElem?_eq_some_iff.1 h).1
theorem wpIn_then_k {F : Fence} {n : Nat} {P : Program} {c : Code} {K : Act → World → Prop} {Q' : Exit → Act → World → Prop} {a a1 : Act} {w w1 : World} (h : ∀ K', K' a1 w1 → c.wpIn F n P (Exit.then K' Q') a w) (hk : K a1 w1) : c.wpIn F n P (Exit.then K Q') a w := h K hk
theorem grown_drew (W : World) : W.grownBy W.drew none := ⟨rfl, rfl, rfl, Nat.le_refl _, fun _ _ _ => rfl⟩
set_option maxHeartbeats 4000000 in
theorem All_in (n : Nat) (off : Int) (t : ByteArray) (w : World) :
    CallsIn Fence.wide n Try.prog 11 #[.agg #[.int .i64 off, .string t]] w fun e w' => e = .returned (.func (.func 28) #[] #[.pointer (some ⟨w.heap.size, 0, none⟩)]) ∧ w' = w.alloc (.cells #[.int .i64 off, .string t] 23) := by
  refine callsIn_of_wp Try.func11 rfl trivial ?_ rfl
  simp only [Try.ntmps11, List.size_toArray, List.length_cons, List.length_nil, Nat.reduceAdd, Nat.reduceSub, Array.replicate_succ, Array.replicate_zero, List.push_toArray, List.append_toArray, List.nil_append, List.cons_append]
  gi_wp2
  go_ret
  exact ⟨rfl, rfl⟩
set_option maxRecDepth 100000 in
set_option maxHeartbeats 8000000 in
theorem All1_in (l Bs : Nat) (off : Int) (t : ByteArray) (ht : t.size ≤ 140737488351232) (J Jx : List (Ln t) → World → Prop) (W : World) (hJ : OwnFrom W.heap.size J) (hJx : OwnFrom W.heap.size Jx)
    (hY : ∀ pre x W1, J pre W1 → pre.length < (lns t).length → (pre ++ [x]).map Subtype.val <+: lns t → YieldAt Fence.wide 8 Try.prog l (allV off x) W1 fun e W' =>
      (e = .returned (.bool true) ∧ J (pre ++ [x]) W' ∧ KA W.heap.size W1 W') ∨ (e = .returned (.bool false) ∧ Jx (pre ++ [x]) W' ∧ KA W.heap.size W1 W'))
    (hs : ∀ pre W1, J pre W1 → W1.heap[Bs]? = some (.cells #[.int .i64 off, .string t] 23 (0, 0))) (h0 : J [] W) :
    CallsIn Fence.wide 9 Try.prog 28 #[.func (.yield l) #[] #[], .pointer (some ⟨Bs, 0, none⟩)] W fun e W' => (∃ v, e = .returned v) ∧
      ((∃ ys, ys.map Subtype.val = lns t ∧ J ys W') ∨ (∃ pre, pre.map Subtype.val <+: lns t ∧ Jx pre W')) := by
  have hro : Fence.wide.round = none := rfl
  refine callsIn_of_wp_marks Try.func28 rfl trivial ?_ hro
  simp only [Try.ntmps28, List.size_toArray, List.length_cons, List.length_nil, Nat.reduceAdd, Nat.reduceSub, Array.replicate_succ, Array.replicate_zero, List.push_toArray, List.append_toArray, List.nil_append, List.cons_append]
  have hb := hs [] W h0
  have hlt : Bs < W.heap.size := blk_lt hb
  have c1 : W.cell? ⟨Bs, 1, none⟩ = some (.string t) := (blk_cell hb 1).trans rfl
  have HS := Aside0.mk hs
  clear hs
  gi_wp2_with (refine ⟨trivial, ?_⟩; gi_at_call 29; refine (ends_in Fence.wide 8 trivial hro _ _).mono ?_; rintro e w' ⟨rfl, rfl⟩)
  have b0 := (Boxed.new W 58 (.func (.yield l) #[] #[])).alloc (.cells #[.string t] 9)
  have b1 := Boxed.new (W.alloc (.cells #[.func (.yield l) #[] #[]] 58)) 9 (.string t)
  rw [World.size_alloc] at b1
  have hJ0 : J [] ((W.alloc (.cells #[.func (.yield l) #[] #[]] 58)).alloc (.cells #[.string t] 9)) := hJ.alloc _ (hJ.alloc _ h0)
  have hsz : ((W.alloc (.cells #[.func (.yield l) #[] #[]] 58)).alloc (.cells #[.string t] 9)).heap.size = W.heap.size + 1 + 1 := by simp
  generalize (W.alloc (.cells #[.func (.yield l) #[] #[]] 58)).alloc (.cells #[.string t] 9) = W0 at b0 b1 hJ0 hsz ⊢
  refine loop_outer hro (by decide) (gf := 31) (lb := #[.pointer (some ⟨W.heap.size + 1, 0, none⟩)]) rfl trivial (enters_of Try.func31 (by kernel_rfl) rfl) ?_
  intro fn0 rc hfn hrc
  obtain ⟨e1, e2, e3, e4⟩ := enter_facts W0 (rc .ready none)
  have hJ1 : J [] ((W0.alloc (.deferred (some []))).alloc (.loop (rc .ready none))) := hJ.alloc _ (hJ.alloc _ hJ0)
  generalize (W0.alloc (.deferred (some []))).alloc (.loop (rc .ready none)) = W1 at e1 e2 e3 e4 hJ1 ⊢
  have hb0' : Boxed W1 W.heap.size 58 (.func (.yield l) #[] #[]) := (e3 _ (by omega)).trans b0
  have hb1' : Boxed W1 (W.heap.size + 1) 9 (.string t) := (e3 _ (by omega)).trans b1
  obtain ⟨q, hq⟩ : ∃ q, q = W0.heap.size := ⟨_, rfl⟩
  rw [← hq] at e1 e2 e4 ⊢
  rw [← hq] at hsz
  have hqa : W.heap.size + 2 ≤ q := by omega
  have hqb : q + 2 ≤ W1.heap.size := by omega
  have HRC := Aside0.mk hrc
  clear hq hsz e4 hrc
  clear b0 b1 hJ0 e3 h0 c1 hb
  have keep : ∀ (A B : World) (row : Option Nat) (k : Nat) (o : Obj), k < W1.heap.size → A.heap[k]? = some o → A.grownBy B row → (∀ r, row = some r → W1.heap.size ≤ r ∧ ∃ o : Obj, A.heap[r]? = some o ∧ o.isWalk = true) → B.heap[k]? = some o := fun A B row k o hk ho hg hr =>
    (hg.block k (blk_lt_any ho) (fun e => by have := (hr k e.symm).1; omega)).trans ho
  refine (ends1_in Fence.wide 8 trivial hro (by decide) (q + 1) (W.heap.size + 1) t ht
    (fun pre X => J pre X ∧ X.heap[W.heap.size]? = some (.cells #[.func (.yield l) #[] #[]] 58 (0, 0)) ∧ X.heap[q + 1]? = some (.loop (rc .ready none)) ∧ X.heap[q]? = some (.deferred (some [])))
    (fun pre X => Jx pre X ∧ X.heap[q + 1]? = some (.loop (rc .done (some .ret))) ∧ X.heap[q]? = some (.deferred (some [])))
    W1 (fun s A B row hs hg hr => ⟨hJ s A B row hs.1 hg (fun r e => ⟨by have := (hr r e).1; omega, by obtain ⟨o, h1, h2⟩ := (hr r e).2; exact ⟨o, h1, Obj.not_cells_of_walk h2⟩⟩), keep A B row _ _ (by omega) hs.2.1 hg hr, keep A B row _ _ (by omega) hs.2.2.1 hg hr, keep A B row _ _ (by omega) hs.2.2.2 hg hr⟩)
    (fun s A B row hs hg hr => ⟨hJx s A B row hs.1 hg (fun r e => ⟨by have := (hr r e).1; omega, by obtain ⟨o, h1, h2⟩ := (hr r e).2; exact ⟨o, h1, Obj.not_cells_of_walk h2⟩⟩), keep A B row _ _ (by omega) hs.2.1 hg hr, keep A B row _ _ (by omega) hs.2.2 hg hr⟩)
    ?yield hb1' ⟨hJ1, hb0', e1, e2⟩).mono ?_
  case yield =>
    rintro pre x V0 ⟨hj0, hbx0, hl0, hd0⟩ hlt2 hpre
    refine yield_rc hfn HRC.out hl0 rfl ?_
    refine wpIn_then_k (a1 := { tmps := #[.func (.yield l) #[] #[], .pointer (some ⟨Bs, 0, none⟩), .pointer (some ⟨W.heap.size, 0, none⟩), .int .i64 (x.1.1 : Int), .int .i64 (x.1.2 : Int), .pointer (some ⟨Bs, 1, none⟩), .string t, .func (.func 31) #[] #[.pointer (some ⟨W.heap.size + 1, 0, none⟩)], .int .i64 (x.1.1 : Int), .int .i64 (x.1.2 : Int), undef, undef, undef, undef, undef, undef, undef, undef, undef, undef, undef, undef], defers := [] }) (w1 := V0) (fun K hK => ?_) ?_
    · dsimp only [lnV]
      gi_wp2
      exact hK
    refine ⟨hl0, ?_⟩
    have hql : q + 1 < V0.heap.size := blk_lt_any hl0
    have hl1 : (V0.putObj (q + 1) (.loop (rc .busy none))).heap[q + 1]? = some (.loop (rc .busy none)) := World.putObj_heap_same hql
    have hd1 : (V0.putObj (q + 1) (.loop (rc .busy none))).heap[q]? = some (.deferred (some [])) := (World.putObj_heap_other (by omega)).trans hd0
    have hbx : (V0.putObj (q + 1) (.loop (rc .busy none))).heap[W.heap.size]? = some (.cells #[.func (.yield l) #[] #[]] 58 (0, 0)) := (World.putObj_heap_other (by omega)).trans hbx0
    have hj : J pre (V0.putObj (q + 1) (.loop (rc .busy none))) := hJ.putObj _ hj0 (by omega) hl0 rfl
    have hbt : Boxed V0 (W.heap.size + 1) 9 (.string t) → (V0.putObj (q + 1) (.loop (rc .busy none))).heap[W.heap.size + 1]? = some (.cells #[.string t] 9 (0, 0)) := fun h => (World.putObj_heap_other (by omega)).trans h
    have hkw : KeepsWalks V0 (V0.putObj (q + 1) (.loop (rc .busy none))) := KeepsWalks.putObj _ hl0 rfl
    generalize V0.putObj (q + 1) (.loop (rc .busy none)) = V at hl1 hd1 hbx hj hbt hkw ⊢
    have hx2 := x.2
    have hY2 := hY pre x V.drew (hJ pre V _ none hj (grown_drew V) (fun r e => by cases e)) hlt2 hpre
    have hbs := HS.out pre V hj
    have d0 : V.drew.cell? ⟨Bs, 0, none⟩ = some (.int .i64 off) := (blk_cell hbs 0).trans rfl
    have d1 : V.drew.cell? ⟨Bs, 1, none⟩ = some (.string t) := (blk_cell hbs 1).trans rfl
    have d2 : V.drew.cell? ⟨W.heap.size, 0, none⟩ = some (.func (.yield l) #[] #[]) := (blk_cell hbx 0).trans rfl
    have OUT1 := Aside0.mk (show ∀ V3 (a : Act), KA W.heap.size V.drew V3 → J (pre ++ [x]) V3 → roundOut (q + 1) rc (fun e W' => (e = .returned (.bool true) ∧ (J (pre ++ [x]) W' ∧ W'.heap[W.heap.size]? = some (.cells #[.func (.yield l) #[] #[]] 58 (0, 0)) ∧ W'.heap[q + 1]? = some (.loop (rc .ready none)) ∧ W'.heap[q]? = some (.deferred (some []))) ∧ EK (W.heap.size + 1) t V0 W') ∨ (e = .returned (.bool false) ∧ (Jx (pre ++ [x]) W' ∧ W'.heap[q + 1]? = some (.loop (rc .done (some .ret))) ∧ W'.heap[q]? = some (.deferred (some []))))) .normal a V3 from fun V3 _ h hj3 => by
      have z1 := h.1 _ _ (by omega) hl1
      have z2 := h.1 _ _ (by omega) hd1
      have z3 := h.1 _ _ (Nat.le_refl _) hbx
      refine ⟨z1, .inl ⟨rfl, ⟨hJ.putObj _ hj3 (by omega) z1 rfl, (World.putObj_heap_other (by omega)).trans z3, World.putObj_heap_same (blk_lt_any z1), (World.putObj_heap_other (by omega)).trans z2⟩, fun hb => ?_, ?_⟩⟩
      · exact (World.putObj_heap_other (by omega)).trans (h.1 _ _ (by omega) (hbt hb))
      · exact (hkw.trans h.drew.2).trans (KeepsWalks.putObj _ z1 rfl))
    have OUT2 := Aside0.mk (show ∀ V3 (a : Act), KA W.heap.size V.drew V3 → Jx (pre ++ [x]) V3 → roundOut (q + 1) rc (fun e W' => (e = .returned (.bool true) ∧ (J (pre ++ [x]) W' ∧ W'.heap[W.heap.size]? = some (.cells #[.func (.yield l) #[] #[]] 58 (0, 0)) ∧ W'.heap[q + 1]? = some (.loop (rc .ready none)) ∧ W'.heap[q]? = some (.deferred (some []))) ∧ EK (W.heap.size + 1) t V0 W') ∨ (e = .returned (.bool false) ∧ (Jx (pre ++ [x]) W' ∧ W'.heap[q + 1]? = some (.loop (rc .done (some .ret))) ∧ W'.heap[q]? = some (.deferred (some []))))) .ret a V3 from fun V3 _ h hj3 => by
      have z1 := h.1 _ _ (by omega) hl1
      have z2 := h.1 _ _ (by omega) hd1
      exact ⟨z1, .inr ⟨rfl, hJx.putObj _ hj3 (by omega) z1 rfl, World.putObj_heap_same (blk_lt_any z1), (World.putObj_heap_other (by omega)).trans z2⟩⟩)
    obtain ⟨⟨x1, x2⟩, hxx⟩ := x
    dsimp only at hx2
    obtain ⟨hx0, hx2⟩ := hx2
    have i1 : (x1 : Int) ≤ (x2 : Int) := by omega
    have i2 : (x2 : Int) ≤ (t.size : Int) := by omega
    rw [allV] at hY2
    dsimp only [lnT] at hY2
    obtain ⟨fn, tmps, assign, body, hy, hR⟩ := hY2
    have HRR := Aside0.mk hR
    clear hR
    clear hbs hbx hj hl1 hd1 hbt hkw hj0 hbx0 hl0 hd0 hb0' hb1' hJ1 e1 e2 keep
    refine wpIn_block ?_
    refine wpIn_seq ?_
    refine wpIn_region_any (by kernel_rfl) (any_in hro (by kernel_rfl) _ _ _ _ ?_)
    change wpAnyIn _ _ _ _ _ _ _ _ _ (World.drew _)
    refine wpAnyIn_take (i := 1) (v := .pointer (some ⟨Bs, 0, none⟩)) rfl rfl (by kernel_rfl) (by kernel_rfl) (by kernel_rfl) (fun _ _ _ h => h) ⟨Or.inl ⟨by rfl, by (intro w; go_simp; try (first | exact i64_w _ | exact IntKind.wrap_i64 _))⟩, fun _ => rfl⟩ ?_
    change wpAnyIn _ _ _ _ _ _ _ _ (Act.put _ (some 11) _) _
    try simp only [Act.put, List.setIfInBounds_toArray, List.set_cons_zero, List.set_cons_succ]
    refine wpAnyIn_take (i := 3) (v := .int .i64 (x1 : Int)) rfl rfl (by kernel_rfl) (by kernel_rfl) (by kernel_rfl) (fun _ _ _ h => h) ⟨Or.inl ⟨by rfl, by (intro w; go_simp; try (first | exact i64_w _ | exact IntKind.wrap_i64 _))⟩, fun _ => rfl⟩ ?_
    change wpAnyIn _ _ _ _ _ _ _ _ (Act.put _ (some 13) _) _
    try simp only [Act.put, List.setIfInBounds_toArray, List.set_cons_zero, List.set_cons_succ]
    refine wpAnyIn_take (i := 5) (v := .pointer (some ⟨Bs, 1, none⟩)) rfl rfl (by kernel_rfl) (by kernel_rfl) (by kernel_rfl) (fun _ _ _ h => h) ⟨Or.inl ⟨by rfl, by (intro w; go_simp; try (first | exact i64_w _ | exact IntKind.wrap_i64 _))⟩, fun _ => rfl⟩ ?_
    change wpAnyIn _ _ _ _ _ _ _ _ (Act.put _ (some 15) _) _
    try simp only [Act.put, List.setIfInBounds_toArray, List.set_cons_zero, List.set_cons_succ]
    refine wpAnyIn_take (i := 7) (v := .int .i64 (x1 : Int)) rfl rfl (by kernel_rfl) (by kernel_rfl) (by kernel_rfl) (fun _ _ _ h => h) ⟨Or.inl ⟨by rfl, by (intro w; go_simp; try (first | exact i64_w _ | exact IntKind.wrap_i64 _))⟩, fun _ => rfl⟩ ?_
    change wpAnyIn _ _ _ _ _ _ _ _ (Act.put _ (some 17) _) _
    try simp only [Act.put, List.setIfInBounds_toArray, List.set_cons_zero, List.set_cons_succ]
    refine wpAnyIn_take (i := 8) (v := .int .i64 (x2 : Int)) rfl rfl (by kernel_rfl) (by kernel_rfl) (by kernel_rfl) (fun _ _ _ h => h) ⟨Or.inl ⟨by rfl, by (intro w; go_simp; try (first | exact i64_w _ | exact IntKind.wrap_i64 _))⟩, fun _ => rfl⟩ ?_
    change wpAnyIn _ _ _ _ _ _ _ _ (Act.put _ (some 18) _) _
    try simp only [Act.put, List.setIfInBounds_toArray, List.set_cons_zero, List.set_cons_succ]
    refine wpAnyIn_ready (rs := [0, 2, 6]) (by kernel_rfl) (by simp) ?_
    refine AllReadyIn.cons rfl (fun K hK => ?_) (AllReadyIn.cons rfl (fun K hK => ?_) (AllReadyIn.cons rfl (fun K hK => ?_) (AllReadyIn.nil)))
    · go_simp
      refine hK _ _ ?_
      clear hK K
      try simp only [Act.put, List.setIfInBounds_toArray, List.set_cons_zero, List.set_cons_succ]
      refine wpAnyIn_ready (rs := [2, 6]) (by kernel_rfl) (by simp) ?_
      refine AllReadyIn.cons rfl (fun K hK => ?_) (AllReadyIn.cons rfl (fun K hK => ?_) (AllReadyIn.nil))
      · go_simp
        refine hK _ _ ?_
        clear hK K
        try simp only [Act.put, List.setIfInBounds_toArray, List.set_cons_zero, List.set_cons_succ]
        refine wpAnyIn_take (i := 4) (v := .int .i64 (wrap64 (off + (x1 : Int)))) rfl rfl (by kernel_rfl) (by kernel_rfl) (by kernel_rfl) (fun _ _ _ h => h) ⟨Or.inl ⟨by rfl, by (intro w; go_simp; try (first | exact i64_w _ | exact IntKind.wrap_i64 _))⟩, fun _ => rfl⟩ ?_
        change wpAnyIn _ _ _ _ _ _ _ _ (Act.put _ (some 14) _) _
        try simp only [Act.put, List.setIfInBounds_toArray, List.set_cons_zero, List.set_cons_succ]
        refine wpAnyIn_ready (rs := [6]) (by kernel_rfl) (by simp) ?_
        refine AllReadyIn.cons rfl (fun K hK => ?_) (AllReadyIn.nil)
        · go_simp
          refine hK _ _ ?_
          clear hK K
          try simp only [Act.put, List.setIfInBounds_toArray, List.set_cons_zero, List.set_cons_succ]
          refine wpAnyIn_take (i := 9) (v := .string (t.extract x1 x2)) rfl rfl (by kernel_rfl) (by kernel_rfl) (by kernel_rfl) (fun _ _ _ h => h) ⟨Or.inl ⟨by rfl, by (intro w; go_simp; try (first | exact i64_w _ | exact IntKind.wrap_i64 _))⟩, fun _ => rfl⟩ ?_
          change wpAnyIn _ _ _ _ _ _ _ _ (Act.put _ (some 19) _) _
          try simp only [Act.put, List.setIfInBounds_toArray, List.set_cons_zero, List.set_cons_succ]
          refine wpAnyIn_ready (rs := [10]) (by kernel_rfl) (by simp) ?_
          refine AllReadyIn.cons rfl (fun K hK => ?_) AllReadyIn.nil
          go_simp
          refine (round_any rfl HRR.out).mono ?_
          rintro e V3 (⟨rfl, hj3, hk3⟩ | ⟨rfl, hj3, hk3⟩)
          · refine hK _ _ ?_
            clear hK K
            try simp only [Act.put, List.setIfInBounds_toArray, List.set_cons_zero, List.set_cons_succ]
            refine wpAnyIn_take (i := 11) (v := .bool false) rfl rfl (by kernel_rfl) (by kernel_rfl) (by kernel_rfl) (fun _ _ _ h => h) ⟨Or.inl ⟨by rfl, by (intro w; go_simp)⟩, fun _ => rfl⟩ ?_
            change wpAnyIn _ _ _ _ _ _ _ _ (Act.put _ (some 21) _) _
            try simp only [Act.put, List.setIfInBounds_toArray, List.set_cons_zero, List.set_cons_succ]
            refine wpAnyIn_done (by kernel_rfl) ?_ _
            refine wpIn_cond_false rfl ?_
            gi_wp2
            exact OUT1.out V3 _ hk3 hj3
          · refine hK _ _ ?_
            clear hK K
            try simp only [Act.put, List.setIfInBounds_toArray, List.set_cons_zero, List.set_cons_succ]
            refine wpAnyIn_take (i := 11) (v := .bool true) rfl rfl (by kernel_rfl) (by kernel_rfl) (by kernel_rfl) (fun _ _ _ h => h) ⟨Or.inl ⟨by rfl, by (intro w; go_simp)⟩, fun _ => rfl⟩ ?_
            change wpAnyIn _ _ _ _ _ _ _ _ (Act.put _ (some 21) _) _
            try simp only [Act.put, List.setIfInBounds_toArray, List.set_cons_zero, List.set_cons_succ]
            refine wpAnyIn_done (by kernel_rfl) ?_ _
            refine wpIn_cond_true rfl ?_
            gi_wp2
            exact OUT2.out V3 _ hk3 hj3
      · go_simp
        refine hK _ _ ?_
        clear hK K
        try simp only [Act.put, List.setIfInBounds_toArray, List.set_cons_zero, List.set_cons_succ]
        refine wpAnyIn_take (i := 9) (v := .string (t.extract x1 x2)) rfl rfl (by kernel_rfl) (by kernel_rfl) (by kernel_rfl) (fun _ _ _ h => h) ⟨Or.inl ⟨by rfl, by (intro w; go_simp; try (first | exact i64_w _ | exact IntKind.wrap_i64 _))⟩, fun _ => rfl⟩ ?_
        change wpAnyIn _ _ _ _ _ _ _ _ (Act.put _ (some 19) _) _
        try simp only [Act.put, List.setIfInBounds_toArray, List.set_cons_zero, List.set_cons_succ]
        refine wpAnyIn_ready (rs := [2]) (by kernel_rfl) (by simp) ?_
        refine AllReadyIn.cons rfl (fun K hK => ?_) (AllReadyIn.nil)
        · go_simp
          refine hK _ _ ?_
          clear hK K
          try simp only [Act.put, List.setIfInBounds_toArray, List.set_cons_zero, List.set_cons_succ]
          refine wpAnyIn_take (i := 4) (v := .int .i64 (wrap64 (off + (x1 : Int)))) rfl rfl (by kernel_rfl) (by kernel_rfl) (by kernel_rfl) (fun _ _ _ h => h) ⟨Or.inl ⟨by rfl, by (intro w; go_simp; try (first | exact i64_w _ | exact IntKind.wrap_i64 _))⟩, fun _ => rfl⟩ ?_
          change wpAnyIn _ _ _ _ _ _ _ _ (Act.put _ (some 14) _) _
          try simp only [Act.put, List.setIfInBounds_toArray, List.set_cons_zero, List.set_cons_succ]
          refine wpAnyIn_ready (rs := [10]) (by kernel_rfl) (by simp) ?_
          refine AllReadyIn.cons rfl (fun K hK => ?_) AllReadyIn.nil
          go_simp
          refine (round_any rfl HRR.out).mono ?_
          rintro e V3 (⟨rfl, hj3, hk3⟩ | ⟨rfl, hj3, hk3⟩)
          · refine hK _ _ ?_
            clear hK K
            try simp only [Act.put, List.setIfInBounds_toArray, List.set_cons_zero, List.set_cons_succ]
            refine wpAnyIn_take (i := 11) (v := .bool false) rfl rfl (by kernel_rfl) (by kernel_rfl) (by kernel_rfl) (fun _ _ _ h => h) ⟨Or.inl ⟨by rfl, by (intro w; go_simp)⟩, fun _ => rfl⟩ ?_
            change wpAnyIn _ _ _ _ _ _ _ _ (Act.put _ (some 21) _) _
            try simp only [Act.put, List.setIfInBounds_toArray, List.set_cons_zero, List.set_cons_succ]
            refine wpAnyIn_done (by kernel_rfl) ?_ _
            refine wpIn_cond_false rfl ?_
            gi_wp2
            exact OUT1.out V3 _ hk3 hj3
          · refine hK _ _ ?_
            clear hK K
            try simp only [Act.put, List.setIfInBounds_toArray, List.set_cons_zero, List.set_cons_succ]
            refine wpAnyIn_take (i := 11) (v := .bool true) rfl rfl (by kernel_rfl) (by kernel_rfl) (by kernel_rfl) (fun _ _ _ h => h) ⟨Or.inl ⟨by rfl, by (intro w; go_simp)⟩, fun _ => rfl⟩ ?_
            change wpAnyIn _ _ _ _ _ _ _ _ (Act.put _ (some 21) _) _
            try simp only [Act.put, List.setIfInBounds_toArray, List.set_cons_zero, List.set_cons_succ]
            refine wpAnyIn_done (by kernel_rfl) ?_ _
            refine wpIn_cond_true rfl ?_
            gi_wp2
            exact OUT2.out V3 _ hk3 hj3
    · go_simp
      refine hK _ _ ?_
      clear hK K
      try simp only [Act.put, List.setIfInBounds_toArray, List.set_cons_zero, List.set_cons_succ]
      refine wpAnyIn_take (i := 4) (v := .int .i64 (wrap64 (off + (x1 : Int)))) rfl rfl (by kernel_rfl) (by kernel_rfl) (by kernel_rfl) (fun _ _ _ h => h) ⟨Or.inl ⟨by rfl, by (intro w; go_simp; try (first | exact i64_w _ | exact IntKind.wrap_i64 _))⟩, fun _ => rfl⟩ ?_
      change wpAnyIn _ _ _ _ _ _ _ _ (Act.put _ (some 14) _) _
      try simp only [Act.put, List.setIfInBounds_toArray, List.set_cons_zero, List.set_cons_succ]
      refine wpAnyIn_ready (rs := [0, 6]) (by kernel_rfl) (by simp) ?_
      refine AllReadyIn.cons rfl (fun K hK => ?_) (AllReadyIn.cons rfl (fun K hK => ?_) (AllReadyIn.nil))
      · go_simp
        refine hK _ _ ?_
        clear hK K
        try simp only [Act.put, List.setIfInBounds_toArray, List.set_cons_zero, List.set_cons_succ]
        refine wpAnyIn_ready (rs := [6]) (by kernel_rfl) (by simp) ?_
        refine AllReadyIn.cons rfl (fun K hK => ?_) (AllReadyIn.nil)
        · go_simp
          refine hK _ _ ?_
          clear hK K
          try simp only [Act.put, List.setIfInBounds_toArray, List.set_cons_zero, List.set_cons_succ]
          refine wpAnyIn_take (i := 9) (v := .string (t.extract x1 x2)) rfl rfl (by kernel_rfl) (by kernel_rfl) (by kernel_rfl) (fun _ _ _ h => h) ⟨Or.inl ⟨by rfl, by (intro w; go_simp; try (first | exact i64_w _ | exact IntKind.wrap_i64 _))⟩, fun _ => rfl⟩ ?_
          change wpAnyIn _ _ _ _ _ _ _ _ (Act.put _ (some 19) _) _
          try simp only [Act.put, List.setIfInBounds_toArray, List.set_cons_zero, List.set_cons_succ]
          refine wpAnyIn_ready (rs := [10]) (by kernel_rfl) (by simp) ?_
          refine AllReadyIn.cons rfl (fun K hK => ?_) AllReadyIn.nil
          go_simp
          refine (round_any rfl HRR.out).mono ?_
          rintro e V3 (⟨rfl, hj3, hk3⟩ | ⟨rfl, hj3, hk3⟩)
          · refine hK _ _ ?_
            clear hK K
            try simp only [Act.put, List.setIfInBounds_toArray, List.set_cons_zero, List.set_cons_succ]
            refine wpAnyIn_take (i := 11) (v := .bool false) rfl rfl (by kernel_rfl) (by kernel_rfl) (by kernel_rfl) (fun _ _ _ h => h) ⟨Or.inl ⟨by rfl, by (intro w; go_simp)⟩, fun _ => rfl⟩ ?_
            change wpAnyIn _ _ _ _ _ _ _ _ (Act.put _ (some 21) _) _
            try simp only [Act.put, List.setIfInBounds_toArray, List.set_cons_zero, List.set_cons_succ]
            refine wpAnyIn_done (by kernel_rfl) ?_ _
            refine wpIn_cond_false rfl ?_
            gi_wp2
            exact OUT1.out V3 _ hk3 hj3
          · refine hK _ _ ?_
            clear hK K
            try simp only [Act.put, List.setIfInBounds_toArray, List.set_cons_zero, List.set_cons_succ]
            refine wpAnyIn_take (i := 11) (v := .bool true) rfl rfl (by kernel_rfl) (by kernel_rfl) (by kernel_rfl) (fun _ _ _ h => h) ⟨Or.inl ⟨by rfl, by (intro w; go_simp)⟩, fun _ => rfl⟩ ?_
            change wpAnyIn _ _ _ _ _ _ _ _ (Act.put _ (some 21) _) _
            try simp only [Act.put, List.setIfInBounds_toArray, List.set_cons_zero, List.set_cons_succ]
            refine wpAnyIn_done (by kernel_rfl) ?_ _
            refine wpIn_cond_true rfl ?_
            gi_wp2
            exact OUT2.out V3 _ hk3 hj3
      · go_simp
        refine hK _ _ ?_
        clear hK K
        try simp only [Act.put, List.setIfInBounds_toArray, List.set_cons_zero, List.set_cons_succ]
        refine wpAnyIn_take (i := 9) (v := .string (t.extract x1 x2)) rfl rfl (by kernel_rfl) (by kernel_rfl) (by kernel_rfl) (fun _ _ _ h => h) ⟨Or.inl ⟨by rfl, by (intro w; go_simp; try (first | exact i64_w _ | exact IntKind.wrap_i64 _))⟩, fun _ => rfl⟩ ?_
        change wpAnyIn _ _ _ _ _ _ _ _ (Act.put _ (some 19) _) _
        try simp only [Act.put, List.setIfInBounds_toArray, List.set_cons_zero, List.set_cons_succ]
        refine wpAnyIn_ready (rs := [0]) (by kernel_rfl) (by simp) ?_
        refine AllReadyIn.cons rfl (fun K hK => ?_) (AllReadyIn.nil)
        · go_simp
          refine hK _ _ ?_
          clear hK K
          try simp only [Act.put, List.setIfInBounds_toArray, List.set_cons_zero, List.set_cons_succ]
          refine wpAnyIn_ready (rs := [10]) (by kernel_rfl) (by simp) ?_
          refine AllReadyIn.cons rfl (fun K hK => ?_) AllReadyIn.nil
          go_simp
          refine (round_any rfl HRR.out).mono ?_
          rintro e V3 (⟨rfl, hj3, hk3⟩ | ⟨rfl, hj3, hk3⟩)
          · refine hK _ _ ?_
            clear hK K
            try simp only [Act.put, List.setIfInBounds_toArray, List.set_cons_zero, List.set_cons_succ]
            refine wpAnyIn_take (i := 11) (v := .bool false) rfl rfl (by kernel_rfl) (by kernel_rfl) (by kernel_rfl) (fun _ _ _ h => h) ⟨Or.inl ⟨by rfl, by (intro w; go_simp)⟩, fun _ => rfl⟩ ?_
            change wpAnyIn _ _ _ _ _ _ _ _ (Act.put _ (some 21) _) _
            try simp only [Act.put, List.setIfInBounds_toArray, List.set_cons_zero, List.set_cons_succ]
            refine wpAnyIn_done (by kernel_rfl) ?_ _
            refine wpIn_cond_false rfl ?_
            gi_wp2
            exact OUT1.out V3 _ hk3 hj3
          · refine hK _ _ ?_
            clear hK K
            try simp only [Act.put, List.setIfInBounds_toArray, List.set_cons_zero, List.set_cons_succ]
            refine wpAnyIn_take (i := 11) (v := .bool true) rfl rfl (by kernel_rfl) (by kernel_rfl) (by kernel_rfl) (fun _ _ _ h => h) ⟨Or.inl ⟨by rfl, by (intro w; go_simp)⟩, fun _ => rfl⟩ ?_
            change wpAnyIn _ _ _ _ _ _ _ _ (Act.put _ (some 21) _) _
            try simp only [Act.put, List.setIfInBounds_toArray, List.set_cons_zero, List.set_cons_succ]
            refine wpAnyIn_done (by kernel_rfl) ?_ _
            refine wpIn_cond_true rfl ?_
            gi_wp2
            exact OUT2.out V3 _ hk3 hj3
    · go_simp
      refine hK _ _ ?_
      clear hK K
      try simp only [Act.put, List.setIfInBounds_toArray, List.set_cons_zero, List.set_cons_succ]
      refine wpAnyIn_take (i := 9) (v := .string (t.extract x1 x2)) rfl rfl (by kernel_rfl) (by kernel_rfl) (by kernel_rfl) (fun _ _ _ h => h) ⟨Or.inl ⟨by rfl, by (intro w; go_simp; try (first | exact i64_w _ | exact IntKind.wrap_i64 _))⟩, fun _ => rfl⟩ ?_
      change wpAnyIn _ _ _ _ _ _ _ _ (Act.put _ (some 19) _) _
      try simp only [Act.put, List.setIfInBounds_toArray, List.set_cons_zero, List.set_cons_succ]
      refine wpAnyIn_ready (rs := [0, 2]) (by kernel_rfl) (by simp) ?_
      refine AllReadyIn.cons rfl (fun K hK => ?_) (AllReadyIn.cons rfl (fun K hK => ?_) (AllReadyIn.nil))
      · go_simp
        refine hK _ _ ?_
        clear hK K
        try simp only [Act.put, List.setIfInBounds_toArray, List.set_cons_zero, List.set_cons_succ]
        refine wpAnyIn_ready (rs := [2]) (by kernel_rfl) (by simp) ?_
        refine AllReadyIn.cons rfl (fun K hK => ?_) (AllReadyIn.nil)
        · go_simp
          refine hK _ _ ?_
          clear hK K
          try simp only [Act.put, List.setIfInBounds_toArray, List.set_cons_zero, List.set_cons_succ]
          refine wpAnyIn_take (i := 4) (v := .int .i64 (wrap64 (off + (x1 : Int)))) rfl rfl (by kernel_rfl) (by kernel_rfl) (by kernel_rfl) (fun _ _ _ h => h) ⟨Or.inl ⟨by rfl, by (intro w; go_simp; try (first | exact i64_w _ | exact IntKind.wrap_i64 _))⟩, fun _ => rfl⟩ ?_
          change wpAnyIn _ _ _ _ _ _ _ _ (Act.put _ (some 14) _) _
          try simp only [Act.put, List.setIfInBounds_toArray, List.set_cons_zero, List.set_cons_succ]
          refine wpAnyIn_ready (rs := [10]) (by kernel_rfl) (by simp) ?_
          refine AllReadyIn.cons rfl (fun K hK => ?_) AllReadyIn.nil
          go_simp
          refine (round_any rfl HRR.out).mono ?_
          rintro e V3 (⟨rfl, hj3, hk3⟩ | ⟨rfl, hj3, hk3⟩)
          · refine hK _ _ ?_
            clear hK K
            try simp only [Act.put, List.setIfInBounds_toArray, List.set_cons_zero, List.set_cons_succ]
            refine wpAnyIn_take (i := 11) (v := .bool false) rfl rfl (by kernel_rfl) (by kernel_rfl) (by kernel_rfl) (fun _ _ _ h => h) ⟨Or.inl ⟨by rfl, by (intro w; go_simp)⟩, fun _ => rfl⟩ ?_
            change wpAnyIn _ _ _ _ _ _ _ _ (Act.put _ (some 21) _) _
            try simp only [Act.put, List.setIfInBounds_toArray, List.set_cons_zero, List.set_cons_succ]
            refine wpAnyIn_done (by kernel_rfl) ?_ _
            refine wpIn_cond_false rfl ?_
            gi_wp2
            exact OUT1.out V3 _ hk3 hj3
          · refine hK _ _ ?_
            clear hK K
            try simp only [Act.put, List.setIfInBounds_toArray, List.set_cons_zero, List.set_cons_succ]
            refine wpAnyIn_take (i := 11) (v := .bool true) rfl rfl (by kernel_rfl) (by kernel_rfl) (by kernel_rfl) (fun _ _ _ h => h) ⟨Or.inl ⟨by rfl, by (intro w; go_simp)⟩, fun _ => rfl⟩ ?_
            change wpAnyIn _ _ _ _ _ _ _ _ (Act.put _ (some 21) _) _
            try simp only [Act.put, List.setIfInBounds_toArray, List.set_cons_zero, List.set_cons_succ]
            refine wpAnyIn_done (by kernel_rfl) ?_ _
            refine wpIn_cond_true rfl ?_
            gi_wp2
            exact OUT2.out V3 _ hk3 hj3
      · go_simp
        refine hK _ _ ?_
        clear hK K
        try simp only [Act.put, List.setIfInBounds_toArray, List.set_cons_zero, List.set_cons_succ]
        refine wpAnyIn_take (i := 4) (v := .int .i64 (wrap64 (off + (x1 : Int)))) rfl rfl (by kernel_rfl) (by kernel_rfl) (by kernel_rfl) (fun _ _ _ h => h) ⟨Or.inl ⟨by rfl, by (intro w; go_simp; try (first | exact i64_w _ | exact IntKind.wrap_i64 _))⟩, fun _ => rfl⟩ ?_
        change wpAnyIn _ _ _ _ _ _ _ _ (Act.put _ (some 14) _) _
        try simp only [Act.put, List.setIfInBounds_toArray, List.set_cons_zero, List.set_cons_succ]
        refine wpAnyIn_ready (rs := [0]) (by kernel_rfl) (by simp) ?_
        refine AllReadyIn.cons rfl (fun K hK => ?_) (AllReadyIn.nil)
        · go_simp
          refine hK _ _ ?_
          clear hK K
          try simp only [Act.put, List.setIfInBounds_toArray, List.set_cons_zero, List.set_cons_succ]
          refine wpAnyIn_ready (rs := [10]) (by kernel_rfl) (by simp) ?_
          refine AllReadyIn.cons rfl (fun K hK => ?_) AllReadyIn.nil
          go_simp
          refine (round_any rfl HRR.out).mono ?_
          rintro e V3 (⟨rfl, hj3, hk3⟩ | ⟨rfl, hj3, hk3⟩)
          · refine hK _ _ ?_
            clear hK K
            try simp only [Act.put, List.setIfInBounds_toArray, List.set_cons_zero, List.set_cons_succ]
            refine wpAnyIn_take (i := 11) (v := .bool false) rfl rfl (by kernel_rfl) (by kernel_rfl) (by kernel_rfl) (fun _ _ _ h => h) ⟨Or.inl ⟨by rfl, by (intro w; go_simp)⟩, fun _ => rfl⟩ ?_
            change wpAnyIn _ _ _ _ _ _ _ _ (Act.put _ (some 21) _) _
            try simp only [Act.put, List.setIfInBounds_toArray, List.set_cons_zero, List.set_cons_succ]
            refine wpAnyIn_done (by kernel_rfl) ?_ _
            refine wpIn_cond_false rfl ?_
            gi_wp2
            exact OUT1.out V3 _ hk3 hj3
          · refine hK _ _ ?_
            clear hK K
            try simp only [Act.put, List.setIfInBounds_toArray, List.set_cons_zero, List.set_cons_succ]
            refine wpAnyIn_take (i := 11) (v := .bool true) rfl rfl (by kernel_rfl) (by kernel_rfl) (by kernel_rfl) (fun _ _ _ h => h) ⟨Or.inl ⟨by rfl, by (intro w; go_simp)⟩, fun _ => rfl⟩ ?_
            change wpAnyIn _ _ _ _ _ _ _ _ (Act.put _ (some 21) _) _
            try simp only [Act.put, List.setIfInBounds_toArray, List.set_cons_zero, List.set_cons_succ]
            refine wpAnyIn_done (by kernel_rfl) ?_ _
            refine wpIn_cond_true rfl ?_
            gi_wp2
            exact OUT2.out V3 _ hk3 hj3
  rintro e W2 ⟨⟨v, rfl⟩, (⟨ys, hys, hj, hb, hl, hd⟩ | ⟨pre, hpre, hj, hl, hd⟩)⟩
  · refine ⟨⟨_, rfl⟩, .ready, none, by decide, hl, ?_⟩
    have hd2 : (W2.putObj (q + 1) (.loop (rc .exhausted none))).heap[q]? = some (.deferred (some [])) := (World.putObj_heap_other (by omega)).trans hd
    have hj2 : J ys (W2.putObj (q + 1) (.loop (rc .exhausted none))) := hJ.putObj _ hj (by omega) hl rfl
    dsimp only
    generalize W2.putObj (q + 1) (.loop (rc .exhausted none)) = W3 at hd2 hj2 ⊢
    gi_wp2
    refine ⟨by simp, .inl ⟨_, _, rfl, run_takeDeferred hd2, ?_⟩⟩
    exact ⟨_, results_none rfl _ _ _, ⟨_, rfl⟩, .inl ⟨ys, hys, hJ.putObj _ hj2 (by omega) hd2 rfl⟩⟩
  · refine ⟨⟨_, rfl⟩, .done, some .ret, by decide, hl, ?_⟩
    have hd2 : (W2.putObj (q + 1) (.loop (rc .exhausted (some .ret)))).heap[q]? = some (.deferred (some [])) := (World.putObj_heap_other (by omega)).trans hd
    have hj2 : Jx pre (W2.putObj (q + 1) (.loop (rc .exhausted (some .ret)))) := hJx.putObj _ hj (by omega) hl rfl
    dsimp only
    generalize W2.putObj (q + 1) (.loop (rc .exhausted (some .ret))) = W3 at hd2 hj2 ⊢
    gi_wp2
    refine ⟨by simp, .inl ⟨_, _, rfl, run_takeDeferred hd2, ?_⟩⟩
    exact ⟨_, results_none rfl _ _ _, ⟨_, rfl⟩, .inr ⟨pre, hpre, hJx.putObj _ hj2 (by omega) hd2 rfl⟩⟩
end Go.Proofs.Ytbcggfjfgoabpaa.P

end
section
/- Loops over iterators that stand in an ordinary loop: their marks among a call's deferred calls. -/
namespace Go.Proofs.Ytbcggfjfgoabpaa.P
open Go.RowKit Go.Shelf Go.Proofs.YtbcggfjfgoabpaaW.PrintWords Go.Proofs.YtbcggfjfgoabpaaW.PrintLast
set_option linter.unusedVariables false

/-- marks of loops over iterators -/
def marks (Ds : List Nat) : List Deferred := Ds.map (fun D => { target := .collected D, args := #[] })
theorem marks_cons (D : Nat) (Ds : List Nat) : ({ target := .collected D, args := #[] } : Deferred) :: marks Ds = marks (D :: Ds) := rfl
/-- no round has deferred a call -/
def Marked (Ds : List Nat) (W : World) : Prop := Ds.Nodup ∧ ∀ D ∈ Ds, W.heap[D]? = some (.deferred (some []))
theorem Marked.nil (W : World) : Marked [] W := ⟨List.nodup_nil, fun _ h => absurd h (List.not_mem_nil)⟩
theorem Marked.cons {Ds : List Nat} {W : World} {D : Nat} (h : Marked Ds W) (hD : W.heap[D]? = some (.deferred (some []))) (hn : D ∉ Ds) : Marked (D :: Ds) W :=
  ⟨List.nodup_cons.2 ⟨hn, h.1⟩, fun D' h' => by
    rcases List.mem_cons.1 h' with rfl | h'
    · exact hD
    · exact h.2 D' h'⟩
theorem Marked.same {Ds : List Nat} {W W' : World} (h : Marked Ds W) (hs : ∀ D ∈ Ds, W'.heap[D]? = W.heap[D]?) : Marked Ds W' := ⟨h.1, fun D hD => (hs D hD).trans (h.2 D hD)⟩
theorem Marked.lt {Ds : List Nat} {W : World} (h : Marked Ds W) {D : Nat} (hD : D ∈ Ds) : D < W.heap.size := (Array.getElem?_eq_some_iff.1 (h.2 D hD)).1
/-- the marks' blocks alone have turned -/
def Shut (Ds : List Nat) (W W' : World) : Prop := W'.heap.size = W.heap.size ∧ W'.os = W.os ∧ W'.tape = W.tape ∧ W'.output = W.output ∧ ∀ k, k ∉ Ds → W'.heap[k]? = W.heap[k]?
theorem Shut.grown {Ds : List Nat} {W W' : World} (h : Shut Ds W W') : ∀ {n₀ : Nat} {w : World}, Below n₀ w W → (∀ D ∈ Ds, n₀ ≤ D) → n₀ ≤ W.heap.size → Below n₀ w W' := by
  intro n₀ w hb hD hn
  obtain ⟨h1, h2, h3, h4, h5⟩ := h
  exact hb.trans ⟨h2, h3, h4, by omega, fun k hk => h5 k (fun h => by have := hD k h; omega)⟩
theorem leaves_marks {F : Fence} {n : Nat} {P : Program} {fn : Func} {tmps : Array Value} {R : Ending → World → Prop} : ∀ (Ds : List Nat) (W : World), Marked Ds W →
    (∀ W', Shut Ds W W' → LeavesIn F n P fn tmps R [] .returning W') → LeavesInM F n P fn tmps R (marks Ds) .returning W := by
  intro Ds
  induction Ds with
  | nil => intro W hM h; exact h W ⟨rfl, rfl, rfl, rfl, fun _ _ => rfl⟩
  | cons D Ds ih =>
    intro W hM h
    obtain ⟨hn, hM2⟩ := hM
    have hD := hM2 D (List.mem_cons_self ..)
    refine ⟨by simp, .inl ⟨D, _, rfl, run_takeDeferred hD, ih _ ⟨(List.nodup_cons.1 hn).2, fun D' h' => ?_⟩ fun W' hS => h W' ?_⟩⟩
    · rw [World.putObj_heap_other (fun e => (List.nodup_cons.1 hn).1 (by rw [← e]; exact h'))]
      exact hM2 D' (List.mem_cons_of_mem _ h')
    · obtain ⟨s1, s2, s3, s4, s5⟩ := hS
      refine ⟨by rw [s1]; simp [World.putObj], by rw [s2]; rfl, by rw [s3]; rfl, by rw [s4]; rfl, fun k hk => ?_⟩
      rw [s5 k (fun h => hk (List.mem_cons_of_mem _ h)), World.putObj_heap_other (fun e => hk (by rw [e]; exact List.mem_cons_self ..))]
/-- all that lay in w lies in X as it lay, but for two boxes, b and the next -/
def But2 (b : Nat) (w X : World) : Prop := X.os = w.os ∧ X.tape = w.tape ∧ X.output = w.output ∧ w.heap.size ≤ X.heap.size ∧ ∀ k, k < w.heap.size → k ≠ b → k ≠ b + 1 → X.heap[k]? = w.heap[k]?
theorem But2.refl (b : Nat) (w : World) : But2 b w w := ⟨rfl, rfl, rfl, Nat.le_refl _, fun _ _ _ _ => rfl⟩
theorem but2_own {β : Type} (b : Nat) (w : World) : OwnFrom w.heap.size (fun (_ : β) X => But2 b w X) := fun _ X Y row hs hg hr => by
  obtain ⟨h1, h2, h3, h4, h5⟩ := hs
  refine ⟨hg.os.trans h1, hg.tape.trans h2, hg.output.trans h3, Nat.le_trans h4 hg.size, fun k hk e1 e2 => (hg.block k (by omega) (fun e => ?_)).trans (h5 k hk e1 e2)⟩
  have := (hr k e.symm).1
  omega
theorem But2.set {b : Nat} {w X : World} (h : But2 b w X) (c : Nat) (hc : c = b ∨ c = b + 1) (v : Value) : But2 b w (X.setCell ⟨c, 0, none⟩ v) := by
  obtain ⟨h1, h2, h3, h4, h5⟩ := h
  exact ⟨h1, h2, h3, by simpa using h4, fun k hk e1 e2 => (Below.heap_setCell X ⟨c, 0, none⟩ v k (by rcases hc with rfl | rfl <;> assumption)).trans (h5 k hk e1 e2)⟩
theorem But2.below {b n₀ : Nat} {w X : World} (h : But2 b w X) (hb : n₀ ≤ b) (hw : b ≤ w.heap.size) : Below n₀ w X :=
  ⟨h.1, h.2.1, h.2.2.1, h.2.2.2.1, fun k hk => h.2.2.2.2 k (by omega) (by omega) (by omega)⟩
end Go.Proofs.Ytbcggfjfgoabpaa.P

end
