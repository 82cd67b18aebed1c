/- Several texts laid together (wip/tools/merge2.py): HLAll. -/
import Derived.Test.YtbcggfjfgoabpaaMA3
import Derived.Test.YtbcggfjfgoabpaaMA2
import Derived.Sort.LoopGhostIn
section
/- The walk of LinesAll: a loop over an iterator, one within it, left or not (printed by HLAll.gen.py). -/
namespace Go.Proofs.Ytbcggfjfgoabpaa.P
open Go.RowKit Go.Shelf Go.Proofs.YtbcggfjfgoabpaaW.PrintWords Go.Proofs.YtbcggfjfgoabpaaW.PrintLast
attribute [local go_sem] Oper.semAt_some
set_option linter.unusedVariables false
set_option linter.unusedSimpArgs false

theorem one_func (f : Fn) (r b : Array Value) : (Value.func f r b).oneCell' = true := rfl
attribute [local go_sem] one_func
theorem func_nil (W : World) (f : Fn) (r b : Array Value) : (binOp .eql 27 (.func f r b) .nilFunc).run Try.prog W = .ok (.bool false) W := rfl
attribute [local go_sem] func_nil
def upd (u : Nat → Value) (i : Nat) (v : Value) (j : Nat) : Value := cond (Nat.beq j i) v (u j)
theorem wide_any {n m : Nat} {P : Program} {f : FuncId} {args : Array Value} {w : World} {R : Ending → World → Prop} (h : CallsIn Fence.wide n P f args w R) : CallsIn Fence.wide m P f args w R := callsIn_wide.2 (callsIn_wide.1 h)
theorem yield_any {m m' : Nat} {P : Program} {l : Nat} {args : Array Value} {W : World} {R : Ending → World → Prop} (h : YieldAt Fence.wide m P l args W R) : YieldAt Fence.wide m' P l args W R := by
  obtain ⟨fn, tmps, assign, body, hy, hR⟩ := h
  exact ⟨fn, tmps, assign, body, hy, round_any rfl hR⟩
/-- a block that lay below stays where only what is no cells, further up, turns -/
theorem stays {A B : World} {row : Option Nat} {n k : Nat} {o : Obj} (hk : k < n) (ho : A.heap[k]? = some o) (hg : A.grownBy B row) (hr : ∀ r, row = some r → n ≤ r ∧ ∃ o : Obj, A.heap[r]? = some o ∧ o.isCells = false) : B.heap[k]? = some o :=
  (hg.block k (blk_lt_any ho) (fun e => by have := (hr k e.symm).1; omega)).trans ho
theorem below_turn {s0 n : Nat} {W4 A B : World} {row : Option Nat} (h : Below s0 W4 A) (hs : s0 ≤ n) (hA : s0 ≤ A.heap.size) (hg : A.grownBy B row) (hr : ∀ r, row = some r → n ≤ r ∧ ∃ o : Obj, A.heap[r]? = some o ∧ o.isCells = false) : Below s0 W4 B :=
  h.grown hg hA (fun k e => by have := (hr k e).1; omega)
theorem below_put {s0 l : Nat} {W4 A : World} (h : Below s0 W4 A) (hl : s0 ≤ l) (o : Obj) : Below s0 W4 (A.putObj l o) :=
  ⟨h.os, h.tape, h.output, by simpa [World.putObj] using h.size, fun k hk => (World.putObj_heap_other (by omega)).trans (h.block k hk)⟩
theorem below_cell {s0 b : Nat} {W4 A : World} (h : Below s0 W4 A) (hb : s0 ≤ b) (v : Value) : Below s0 W4 (A.setCell ⟨b, 0, none⟩ v) := h.setCell (p := ⟨b, 0, none⟩) hb v
theorem put_size (A : World) (l : Nat) (o : Obj) : (A.putObj l o).heap.size = A.heap.size := by simp [World.putObj]
theorem set_size (A : World) (p : Addr) (v : Value) : (A.setCell p v).heap.size = A.heap.size := by simp [World.setCell]
/-- a box of a number that is written -/
theorem box_set {A : World} {b : Nat} {v : Value} (h : A.heap[b]? = some (.cells #[v] 3 (0, 0))) (v' : Value) : (A.setCell ⟨b, 0, none⟩ v').heap[b]? = some (.cells #[v'] 3 (0, 0)) := Boxed.set v' h
theorem drewN_heap (A : World) (n : Nat) : (A.drewN n).heap = A.heap := rfl
/-- what stands between two rounds of the ordinary loop -/
def LS (s0 : Nat) (W4 V : World) (r bR : Nat) (Ds : List Nat) : Prop := Below s0 W4 V ∧ V.heap[bR]? = some (.cells #[.int .i64 (r : Int)] 3 (0, 0)) ∧ s0 ≤ bR ∧ Marked Ds V ∧ (∀ D ∈ Ds, s0 ≤ D)
theorem LS.below {s0 : Nat} {W4 V X : World} {r bR : Nat} {Ds : List Nat} (h : LS s0 W4 V r bR Ds) (hb : Below V.heap.size V X) (hs : s0 ≤ V.heap.size := by omega) : LS s0 W4 X r bR Ds :=
  ⟨⟨hb.os.trans h.1.os, hb.tape.trans h.1.tape, hb.output.trans h.1.output, Nat.le_trans h.1.size hb.size, fun k hk => (hb.block k (by omega)).trans (h.1.block k hk)⟩, (hb.block _ (blk_lt h.2.1)).trans h.2.1, h.2.2.1, h.2.2.2.1.same (fun E hE => hb.block E (h.2.2.2.1.lt hE)), h.2.2.2.2⟩
/-- no round so far has been the last one -/
def STP (r : Nat) (stop : Int) (n : Nat) : Prop := r = 0 → ∀ j, 1 ≤ j → j ≤ n → (j : Int) ≠ stop
/-- what stands between two rounds -/
def JA (s0 : Nat) (W4 : World) (bR bN r n D : Nat) (Ds : List Nat) (X : World) : Prop :=
  Below s0 W4 X ∧ X.heap[bR]? = some (.cells #[.int .i64 (r : Int)] 3 (0, 0)) ∧ X.heap[bN]? = some (.cells #[.int .i64 (n : Int)] 3 (0, 0)) ∧ X.heap[D]? = some (.deferred (some [])) ∧ Marked Ds X ∧ D + 2 ≤ X.heap.size
theorem JA.own {s0 : Nat} {W4 : World} {bR bN r n D : Nat} {Ds : List Nat} {A B : World} {row : Option Nat} (h : JA s0 W4 bR bN r n D Ds A) (h1 : bR < D + 2) (h2 : bN < D + 2) (h3 : ∀ E ∈ Ds, E < D + 2) (h4 : s0 ≤ D + 2)
    (hg : A.grownBy B row) (hr : ∀ r, row = some r → D + 2 ≤ r ∧ ∃ o : Obj, A.heap[r]? = some o ∧ o.isCells = false) : JA s0 W4 bR bN r n D Ds B :=
  ⟨below_turn h.1 h4 (Nat.le_trans h4 h.2.2.2.2.2) hg hr, stays h1 h.2.1 hg hr, stays h2 h.2.2.1 hg hr, stays (by omega) h.2.2.2.1 hg hr, h.2.2.2.2.1.same (fun E hE => (hg.block E (h.2.2.2.2.1.lt hE) (fun e => by have := (hr E e.symm).1; have := h3 E hE; omega))), Nat.le_trans h.2.2.2.2.2 hg.size⟩
theorem JA.put {s0 : Nat} {W4 : World} {bR bN r n D l : Nat} {Ds : List Nat} {A : World} (h : JA s0 W4 bR bN r n D Ds A) (h0 : s0 ≤ l) (h1 : bR ≠ l) (h2 : bN ≠ l) (h3 : ∀ E ∈ Ds, E ≠ l) (h4 : D ≠ l) (o : Obj) : JA s0 W4 bR bN r n D Ds (A.putObj l o) :=
  ⟨below_put h.1 h0 o, (World.putObj_heap_other h1).trans h.2.1, (World.putObj_heap_other h2).trans h.2.2.1, (World.putObj_heap_other h4).trans h.2.2.2.1, h.2.2.2.2.1.same (fun E hE => World.putObj_heap_other (h3 E hE)), by rw [put_size]; exact h.2.2.2.2.2⟩
theorem JA.below {s0 : Nat} {W4 : World} {bR bN r n D : Nat} {Ds : List Nat} {A B : World} (h : JA s0 W4 bR bN r n D Ds A) (hs : s0 ≤ A.heap.size) (hb : Below A.heap.size A B) : JA s0 W4 bR bN r n D Ds B :=
  ⟨⟨hb.os.trans h.1.os, hb.tape.trans h.1.tape, hb.output.trans h.1.output, Nat.le_trans h.1.size hb.size, fun k hk => (hb.block k (by omega)).trans (h.1.block k hk)⟩, (hb.block _ (blk_lt_any h.2.1)).trans h.2.1, (hb.block _ (blk_lt_any h.2.2.1)).trans h.2.2.1, (hb.block _ (blk_lt_any h.2.2.2.1)).trans h.2.2.2.1, h.2.2.2.2.1.same (fun E hE => hb.block E (h.2.2.2.2.1.lt hE)), Nat.le_trans h.2.2.2.2.2 hb.size⟩
theorem JA.count {s0 : Nat} {W4 : World} {bR bN r n D : Nat} {Ds : List Nat} {A : World} (h : JA s0 W4 bR bN r n D Ds A) (h0 : s0 ≤ bN) (h1 : bR ≠ bN) (h2 : D ≠ bN) (h3 : ∀ E ∈ Ds, E ≠ bN) (n' : Nat) : JA s0 W4 bR bN r n' D Ds (A.setCell ⟨bN, 0, none⟩ (.int .i64 (n' : Int))) :=
  ⟨below_cell h.1 h0 _, (Below.heap_setCell A ⟨bN, 0, none⟩ _ bR h1).trans h.2.1, box_set h.2.2.1 _, (Below.heap_setCell A ⟨bN, 0, none⟩ _ D h2).trans h.2.2.2.1, h.2.2.2.2.1.same (fun E hE => Below.heap_setCell A ⟨bN, 0, none⟩ _ E (h3 E hE)), by rw [set_size]; exact h.2.2.2.2.2⟩
/-- the fixed boxes -/
def FX (V : World) (bS bT bE bW bQ bL : Nat) (off stop : Int) (t : ByteArray) (ad : Option Addr) (m cw : Nat) : Prop :=
  V.heap[bS]? = some (.cells #[.int .i64 off, .string t] 23 (0, 0)) ∧ V.heap[bT]? = some (.cells #[.int .i64 stop] 3 (0, 0)) ∧ V.heap[bE]? = some (.cells #[.bool false] 4 (0, 0)) ∧ V.heap[bW]? = some (.cells #[.slice ad m cw] 24 (0, 0)) ∧
    V.heap[bQ]? = some (.cells #[.int .i64 off, .string t] 23 (0, 0)) ∧ V.heap[bL]? = some (.cells #[.func (.func 28) #[] #[.pointer (some ⟨bQ, 0, none⟩)]] 27 (0, 0)) ∧
    (∀ i, (h : i < (lns t).length) → ∃ a, ad = some a ∧ a.block < V.heap.size ∧ V.cell? (a.add (i * 3)) = some (.int .i64 (((lns t)[i]).1 : Int)) ∧ V.cell? ⟨(a.add (i * 3)).block, (a.add (i * 3)).off + 1, none⟩ = some (.string (lnT t (lns t)[i])))
theorem add_block (a : Addr) (n : Nat) : (a.add n).block = a.block := by unfold Addr.add; split <;> rfl
theorem FX.below {V X : World} {bS bT bE bW bQ bL : Nat} {off stop : Int} {t : ByteArray} {ad : Option Addr} {m cw : Nat} (h : FX V bS bT bE bW bQ bL off stop t ad m cw) (hb : Below V.heap.size V X) : FX X bS bT bE bW bQ bL off stop t ad m cw := by
  obtain ⟨h1, h2, h3, h4, h5, h6, h7⟩ := h
  refine ⟨(hb.block _ (blk_lt h1)).trans h1, (hb.block _ (blk_lt h2)).trans h2, (hb.block _ (blk_lt h3)).trans h3, (hb.block _ (blk_lt h4)).trans h4, (hb.block _ (blk_lt h5)).trans h5, (hb.block _ (blk_lt h6)).trans h6, fun i hi => ?_⟩
  obtain ⟨a, e, q0, q1, q2⟩ := h7 i hi
  exact ⟨a, e, Nat.lt_of_lt_of_le q0 hb.size, (hb.cell (p := a.add (i * 3)) (by first | (rw [add_block]; exact q0) | (show (a.add (i * 3)).block < _; rw [add_block]; exact q0))).trans q1, (hb.cell (p := ⟨(a.add (i * 3)).block, (a.add (i * 3)).off + 1, none⟩) (by first | (rw [add_block]; exact q0) | (show (a.add (i * 3)).block < _; rw [add_block]; exact q0))).trans q2⟩
theorem three_boxes (w : World) (a b c : Obj) : (((w.alloc a).alloc b).alloc c).heap[w.heap.size]? = some a ∧ (((w.alloc a).alloc b).alloc c).heap[w.heap.size + 1]? = some b ∧ (((w.alloc a).alloc b).alloc c).heap[w.heap.size + 1 + 1]? = some c ∧
    (((w.alloc a).alloc b).alloc c).heap.size = w.heap.size + 3 ∧ Below w.heap.size w (((w.alloc a).alloc b).alloc c) := by
  refine ⟨?_, ?_, ?_, by simp, (((Below.refl _ w).alloc (Nat.le_refl _) _).alloc (by simp) _).alloc (by simp; omega) _⟩
  · rw [Below.heap_alloc _ _ _ (by simp; omega), Below.heap_alloc _ _ _ (by simp)]; exact World.alloc_heap_new _ _
  · rw [Below.heap_alloc _ _ _ (by simp)]
    have := World.alloc_heap_new (w.alloc a) b
    rwa [World.size_alloc] at this
  · have := World.alloc_heap_new ((w.alloc a).alloc b) c
    rwa [World.size_alloc, World.size_alloc] at this
theorem World.alloc_heap_old (w : World) (o : Obj) {k : Nat} (h : k < w.heap.size) : (w.alloc o).heap[k]? = w.heap[k]? := Below.heap_alloc w o k h
theorem JA.next {s0 : Nat} {W4 : World} {bR bN r n D : Nat} {Ds : List Nat} {Z : World} (h : JA s0 W4 bR bN r n D Ds Z) (r' : Nat) (hs : s0 ≤ Z.heap.size) (hD : s0 ≤ D) (hn : D ∉ Ds) (hd : ∀ E ∈ Ds, s0 ≤ E) : LS s0 W4 (Z.alloc (.cells #[.int .i64 (r' : Int)] 3)) r' Z.heap.size (D :: Ds) := by
  have hb : Below Z.heap.size Z (Z.alloc (.cells #[.int .i64 (r' : Int)] 3)) := below_alloc (Below.refl _ Z) _
  refine ⟨⟨hb.os.trans h.1.os, hb.tape.trans h.1.tape, hb.output.trans h.1.output, Nat.le_trans h.1.size hb.size, fun k hk => (hb.block k (by omega)).trans (h.1.block k hk)⟩, World.alloc_heap_new Z _, hs, ?_, ?_⟩
  · exact (h.2.2.2.2.1.same (fun E hE => hb.block E (h.2.2.2.2.1.lt hE))).cons ((hb.block D (blk_lt_any h.2.2.2.1)).trans h.2.2.2.1) hn
  · intro E hE
    rcases List.mem_cons.1 hE with rfl | hE
    · exact hD
    · exact hd E hE
theorem below_after {w W4 V : World} (h : Below w.heap.size w W4) (h2 : Below W4.heap.size W4 V) : Below w.heap.size w V := below_step h h2
theorem results_f3 (tmps : Array Value) (W : World) (b : Nat) (h4 : tmps.getD 4 undef = .pointer (some ⟨b, 0, none⟩)) (hc : W.cell? ⟨b, 0, none⟩ = some (.bool true)) : (results Try.f3 tmps).run Try.prog W = .ok (.bool true) W := by
  have hr : Try.f3.results = #[.cell 4 4] := rfl
  have hp' : tmps[4]?.getD undef = .pointer (some ⟨b, 0, none⟩) := by simpa using h4
  have ha := Try.isAgg4
  simp [results, hr, hp', asAddr, loadVar, ha, hc, Sem.run_bind, Result.andThen, go_sem]
theorem pre_at {t : ByteArray} {pre : List (Ln t)} {x : Ln t} (h : (pre ++ [x]).map Subtype.val <+: lns t) : ∃ hl : pre.length < (lns t).length, (lns t)[pre.length] = x.1 := by
  obtain ⟨rest, h⟩ := h
  have e : lns t = pre.map Subtype.val ++ (x.1 :: rest) := by rw [← h]; simp
  have hl : pre.length < (lns t).length := by rw [e]; simp
  refine ⟨hl, ?_⟩
  have h2 : (lns t)[pre.length]? = some x.1 := by rw [e, List.getElem?_append_right (by simp)]; simp
  rw [List.getElem?_eq_getElem hl] at h2
  exact Option.some.inj h2

set_option maxRecDepth 100000 in
set_option maxHeartbeats 20000000 in
theorem LinesAll_walk (off stop : Int) (t : ByteArray) (w : World) (ht : t.size ≤ 4194304) (hst : -9223372036854775808 ≤ stop ∧ stop ≤ 9223372036854775807) :
    CallsIn Fence.wide 10 Try.prog 3 #[.agg #[.int .i64 off, .string t], .int .i64 stop] w fun e W' => e = .returned (.bool true) ∧ Below w.heap.size w W' := by
  have hro : Fence.wide.round = none := rfl
  have hN : (lns t).length ≤ t.size + 1 := lnsD_length t t.size 0 0
  refine callsIn_of_wp_marks Try.func3 rfl trivial ?_ hro
  simp only [Try.ntmps3, List.size_toArray, List.length_cons, List.length_nil, Nat.reduceAdd, Nat.reduceSub, Array.replicate_succ, Array.replicate_zero, List.push_toArray, List.append_toArray, List.nil_append, List.cons_append]
  have HREF := Aside0.mk (fun (V : World) => winnowref13_All.calls (t.size + 2) t _ V (RefAll_eq t ht _ (by omega)))
  have HTS := Aside0.mk ht
  have HST := Aside0.mk hst
  have HNN := Aside0.mk hN
  clear hN ht hst
  have hu27 := Try.underlying27
  gi_wp2_with (first
    | (refine ⟨trivial, ?_⟩; gi_at_call 10; refine (callsIn_wide.2 (HREF.out _)).mono ?_; rintro e w1 ⟨vw, rfl, hR, hB1⟩; obtain ⟨Aw, cw, rfl, hcw, hCw⟩ := Kd.R_reads hR; rw [List.length_map] at hCw; have HCW := Aside0.mk hCw; have HB1 := Aside0.mk hB1; have hs1 : w1.heap[w.heap.size]? = some (.cells #[.int .i64 off, .string t] 23 (0, 0)) := (hB1.block _ (by simp; omega)).trans (three_boxes w _ _ _).1; have hs2 := World.alloc_heap_old w1 (.cells #[.slice Aw (lns t).length cw] 24) (blk_lt hs1); have x0 : (w1.alloc (.cells #[.slice Aw (lns t).length cw] 24)).cell? ⟨w.heap.size, 0, none⟩ = some (.int .i64 off) := (blk_cell (hs2.trans hs1) 0).trans rfl; have x1 : (w1.alloc (.cells #[.slice Aw (lns t).length cw] 24)).cell? ⟨w.heap.size, 1, none⟩ = some (.string t) := (blk_cell (hs2.trans hs1) 1).trans rfl; clear hR hB1 hcw hCw hs1 hs2)
    | (refine ⟨trivial, ?_⟩; gi_at_call 11; refine (All_in _ off t _).mono ?_; rintro e w2 ⟨rfl, rfl⟩))
  rw [run_store (hv := rfl)]
  go_simp
  have hV := three_boxes w (.cells #[.int .i64 off, .string t] 23) (.cells #[.int .i64 stop] 3) (.cells #[.bool false] 4)
  have hU := three_boxes w1 (.cells #[.slice Aw (lns t).length cw] 24) (.cells #[.int .i64 off, .string t] 23) (.cells #[.func (.func 28) #[] #[.pointer (some ⟨w1.heap.size + 1, 0, none⟩)]] 27)
  have hFX : FX (((w1.alloc (.cells #[.slice Aw (lns t).length cw] 24)).alloc (.cells #[.int .i64 off, .string t] 23)).alloc (.cells #[.func (.func 28) #[] #[.pointer (some ⟨w1.heap.size + 1, 0, none⟩)]] 27)) w.heap.size (w.heap.size + 1) (w.heap.size + 1 + 1) w1.heap.size (w1.heap.size + 1) (w1.heap.size + 1 + 1) off stop t Aw (lns t).length cw := by
    have s0 := hV.2.2.2.1
    have hb := HB1.out
    rw [s0] at hb
    refine ⟨(hU.2.2.2.2.block _ ?_).trans ((hb.block _ (by omega)).trans hV.1), (hU.2.2.2.2.block _ ?_).trans ((hb.block _ (by omega)).trans hV.2.1), (hU.2.2.2.2.block _ ?_).trans ((hb.block _ (by omega)).trans hV.2.2.1), hU.1, hU.2.1, hU.2.2.1, fun i hi => ?_⟩
    · have := hb.size; omega
    · have := hb.size; omega
    · have := hb.size; omega
    · obtain ⟨a, e, q1, q2, q3⟩ := at_T30 HCW.out (i : Int) (Int.natCast_nonneg i) (by exact Int.ofNat_lt.2 hi)
      have er : rd_T30 (List.map (lineOf t) (lns t)) (i : Int) = lineOf t (lns t)[i] := by
        unfold rd_T30
        rw [Int.toNat_natCast, List.getD_eq_getElem?_getD, List.getElem?_map, List.getElem?_eq_getElem hi]
        rfl
      rw [er, Int.toNat_natCast] at q1 q2
      have hl : a.block < w1.heap.size := by have := World.block_lt_of_cell? _ _ q1; rwa [add_block] at this
      refine ⟨a, e, by have := hU.2.2.2.1; omega, (hU.2.2.2.2.cell (p := a.add (i * 3)) (by rw [add_block]; exact hl)).trans q1, (hU.2.2.2.2.cell (p := ⟨(a.add (i * 3)).block, (a.add (i * 3)).off + 1, none⟩) (by show (a.add (i * 3)).block < _; rw [add_block]; exact hl)).trans q2⟩
  have hBW : Below w.heap.size w (((w1.alloc (.cells #[.slice Aw (lns t).length cw] 24)).alloc (.cells #[.int .i64 off, .string t] 23)).alloc (.cells #[.func (.func 28) #[] #[.pointer (some ⟨w1.heap.size + 1, 0, none⟩)]] 27)) := below_step (below_step hV.2.2.2.2 HB1.out) hU.2.2.2.2
  generalize ((w1.alloc (.cells #[.slice Aw (lns t).length cw] 24)).alloc (.cells #[.int .i64 off, .string t] 23)).alloc (.cells #[.func (.func 28) #[] #[.pointer (some ⟨w1.heap.size + 1, 0, none⟩)]] 27) = W4 at hFX hBW ⊢
  clear hV hU x0 x1 HB1 HCW
  generalize w1.heap.size + 1 + 1 = bL at hFX ⊢
  generalize w1.heap.size + 1 = bQ at hFX ⊢
  generalize w1.heap.size = bW at hFX ⊢
  have hbE : w.heap.size ≤ w.heap.size + 1 + 1 := by omega
  generalize w.heap.size + 1 + 1 = bE at hFX hbE ⊢
  have HBE := Aside0.mk hbE
  clear hbE
  generalize w.heap.size + 1 = bT at hFX ⊢
  have HBW := Aside0.mk hBW
  have HFX := Aside0.mk hFX
  have xL : W4.cell? ⟨bL, 0, none⟩ = some (.func (.func 28) #[] #[.pointer (some ⟨bQ, 0, none⟩)]) := (blk_cell hFX.2.2.2.2.2.1 0).trans rfl
  clear hBW hFX
  gi_wp2
  have HL0 : Aside0 (LS W4.heap.size W4 (W4.alloc (.cells #[.int .i64 0] 3)) 0 W4.heap.size []) := ⟨⟨below_alloc (Below.refl _ W4) _, World.alloc_heap_new W4 _, Nat.le_refl _, Marked.nil _, fun _ h => absurd h List.not_mem_nil⟩⟩
  refine wpIn_loop_ghost_k (fun k a V => ∃ (r bR : Nat) (Ds : List Nat) (u : Nat → Value), k = 2 - r ∧ r ≤ 2 ∧ Aside0 (LS W4.heap.size W4 V r bR Ds) ∧ a = { tmps := #[.agg #[.int .i64 off, .string t], .int .i64 stop, .pointer (some ⟨w.heap.size, 0, none⟩), .pointer (some ⟨bT, 0, none⟩), .pointer (some ⟨bE, 0, none⟩), .pointer (some ⟨bW, 0, none⟩), .pointer (some ⟨bL, 0, none⟩), .pointer (some ⟨bR, 0, none⟩), u 8, u 9, u 10, u 11, u 12, u 13, u 14, u 15, u 16, u 17, u 18, u 19, u 20, u 21, u 22, u 23, u 24, u 25, u 26, u 27, u 28, u 29, u 30, u 31, u 32, u 33, u 34, u 35, u 36, u 37, u 38, u 39, u 40, u 41, u 42, u 43, u 44, u 45, u 46, u 47, u 48, u 49, u 50, u 51, u 52, u 53, u 54, u 55, u 56, u 57, u 58, u 59, u 60, u 61, u 62, u 63, u 64, u 65, u 66, u 67, u 68, u 69, u 70, u 71, u 72, u 73, u 74, u 75, u 76, u 77, u 78, u 79, u 80, u 81, u 82, u 83, u 84], defers := marks Ds }) 2 ?start ?round
  case start => exact ⟨0, W4.heap.size, [], fun i => upd (upd (upd (upd (upd (upd (upd (fun _ => undef) 12 (.pointer (some ⟨w.heap.size, 1, none⟩))) 13 (.string t)) 14 (.slice Aw (lns t).length cw)) 15 (.agg #[.int .i64 off, .string t])) 16 (.func (.func 28) #[] #[.pointer (some ⟨bQ, 0, none⟩)])) 17 (.func (.func 28) #[] #[.pointer (some ⟨bQ, 0, none⟩)])) 18 (.bool false) i, rfl, by omega, HL0, rfl⟩
  case round =>
    clear HL0
    rintro k _ V ⟨r, bR, Ds, u, rfl, hr, HL, rfl⟩ JJ KK hJJ hKK
    have hfx := HFX.out.below HL.out.1
    have hs0 : W4.heap.size ≤ V.heap.size := HL.out.1.size
    have xR : V.cell? ⟨bR, 0, none⟩ = some (.int .i64 (r : Int)) := (blk_cell HL.out.2.1 0).trans rfl
    by_cases hr2 : r < 2
    · have d1 : decide ((r : Int) < 2) = true := decide_eq_true (by omega)
      have xL : (V.alloc (.cells #[.int .i64 0] 3)).cell? ⟨bL, 0, none⟩ = some (.func (.func 28) #[] #[.pointer (some ⟨bQ, 0, none⟩)]) := (blk_cell ((World.alloc_heap_old V _ (blk_lt hfx.2.2.2.2.2.1)).trans hfx.2.2.2.2.2.1) 0).trans rfl
      have HJK := Aside0.mk (And.intro hJJ hKK)
      clear hJJ hKK hfx
      gi_wp2
      have hb0 : (V.alloc (.cells #[.int .i64 0] 3)).heap[V.heap.size]? = some (.cells #[.int .i64 ((0 : Nat) : Int)] 3 (0, 0)) := World.alloc_heap_new V _
      have hls : LS W4.heap.size W4 (V.alloc (.cells #[.int .i64 0] 3)) r bR Ds := HL.out.below (below_alloc (Below.refl _ V) _)
      have hsz : (V.alloc (.cells #[.int .i64 0] 3)).heap.size = V.heap.size + 1 := by simp
      have hrn0 : bR < V.heap.size := blk_lt HL.out.2.1
      generalize hbn : V.heap.size = bN at hb0 hsz hs0 hrn0 ⊢
      generalize V.alloc (.cells #[.int .i64 0] 3) = V1 at hb0 hls hsz ⊢
      clear xR xL HL hbn
      refine loop_outer hro (by decide) (gf := 28) (lb := #[.pointer (some ⟨bQ, 0, none⟩)]) rfl trivial (enters_of Try.func28 (by kernel_rfl) rfl) ?_
      intro fn0 rc hfn hrc
      obtain ⟨e1, e2, e3, e4⟩ := enter_facts V1 (rc .ready none)
      have e5 : Below V1.heap.size V1 ((V1.alloc (.deferred (some []))).alloc (.loop (rc .ready none))) := below_alloc (below_alloc (Below.refl _ V1) _) _
      generalize (V1.alloc (.deferred (some []))).alloc (.loop (rc .ready none)) = W1 at e1 e2 e3 e4 e5 ⊢
      have hja0 : JA W4.heap.size W4 bR bN r 0 V1.heap.size Ds W1 := by
        obtain ⟨z1, z2, z3, z4, z5⟩ := hls.below e5
        exact ⟨z1, z2, (e5.block _ (by omega)).trans hb0, e2, z4, by omega⟩
      have hbl : bR < V1.heap.size := blk_lt hls.2.1
      have hdl : ∀ E ∈ Ds, E < V1.heap.size := fun E hE => hls.2.2.2.1.lt hE
      have hds : ∀ E ∈ Ds, W4.heap.size ≤ E := hls.2.2.2.2
      have hdn : ∀ E ∈ Ds, E ≠ bN := fun E hE e => by
        have h1 := hls.2.2.2.1.2 E hE
        rw [e, hb0] at h1
        cases h1
      have hrn : bR ≠ bN := by omega
      obtain ⟨q, hq⟩ : ∃ q, q = V1.heap.size := ⟨_, rfl⟩
      rw [← hq] at e1 e2 e4 hja0 hbl hdl hsz ⊢
      have hqn : bN < q := by omega
      have hqw : q + 2 ≤ W1.heap.size := by omega
      have hwq : W1.heap.size ≤ q + 2 := by omega
      have HRC := Aside0.mk hrc
      clear hq hsz e4 hrc e3 e5 hb0 e2
      have hq4 : W4.heap.size ≤ q := by omega
      refine (wide_any (All1_in (q + 1) bQ off t (by have := HTS.out; omega)
        (fun pre X => JA W4.heap.size W4 bR bN r pre.length q Ds X ∧ X.heap[q + 1]? = some (.loop (rc .ready none)) ∧ STP r stop pre.length)
        (fun pre X => JA W4.heap.size W4 bR bN r pre.length q Ds X ∧ X.heap[q + 1]? = some (.loop (rc .done (some (.exit 2)))) ∧ r = 0 ∧ (pre.length : Int) = stop)
        W1 ?own ?ownx ?yield ?hs ?h0)).mono ?behind
      case own =>
        intro s A B row hs hg hr3
        have hr4 : ∀ r, row = some r → q + 2 ≤ r ∧ ∃ o : Obj, A.heap[r]? = some o ∧ o.isCells = false := fun r e => ⟨by have := (hr3 r e).1; omega, (hr3 r e).2⟩
        exact ⟨hs.1.own (by omega) (by omega) (fun E hE => by have := hdl E hE; omega) (by omega) hg hr4, stays (by omega) hs.2.1 hg hr4, hs.2.2⟩
      case ownx =>
        intro s A B row hs hg hr3
        have hr4 : ∀ r, row = some r → q + 2 ≤ r ∧ ∃ o : Obj, A.heap[r]? = some o ∧ o.isCells = false := fun r e => ⟨by have := (hr3 r e).1; omega, (hr3 r e).2⟩
        exact ⟨hs.1.own (by omega) (by omega) (fun E hE => by have := hdl E hE; omega) (by omega) hg hr4, stays (by omega) hs.2.1 hg hr4, hs.2.2⟩
      case hs =>
        rintro pre X ⟨hja, _, _⟩
        exact (HFX.out.below hja.1).2.2.2.2.1
      case h0 => exact ⟨hja0, e1, fun _ j h1 h2 => by simp at h2; omega⟩
      case yield =>
        rintro pre x X0 ⟨hja, hl0, hstp⟩ hlen hpre
        refine yield_rc hfn HRC.out hl0 rfl ?_
        refine wpIn_then_k (a1 := { tmps := #[.agg #[.int .i64 off, .string t], .int .i64 stop, .pointer (some ⟨w.heap.size, 0, none⟩), .pointer (some ⟨bT, 0, none⟩), .pointer (some ⟨bE, 0, none⟩), .pointer (some ⟨bW, 0, none⟩), .pointer (some ⟨bL, 0, none⟩), .pointer (some ⟨bR, 0, none⟩), .pointer (some ⟨bN, 0, none⟩), .int .i64 (wrap64 (off + (x.1.1 : Int))), .string (lnT t x.1), u 11, u 12, u 13, u 14, u 15, u 16, u 17, u 18, .int .i64 (r : Int), .bool true, u 21, u 22, .func (.func 28) #[] #[.pointer (some ⟨bQ, 0, none⟩)], .int .i64 (wrap64 (off + (x.1.1 : Int))), .string (lnT t x.1), u 26, u 27, u 28, u 29, u 30, u 31, u 32, u 33, u 34, u 35, u 36, u 37, u 38, u 39, u 40, u 41, u 42, u 43, u 44, u 45, u 46, u 47, u 48, u 49, u 50, u 51, u 52, u 53, u 54, u 55, u 56, u 57, u 58, u 59, u 60, u 61, u 62, u 63, u 64, u 65, u 66, u 67, u 68, u 69, u 70, u 71, u 72, u 73, u 74, u 75, u 76, u 77, u 78, u 79, u 80, u 81, u 82, u 83, u 84], defers := [] }) (w1 := X0) (fun K hK => ?_) ?_
        · dsimp only [allV]
          gi_wp2
          exact hK
        refine ⟨hl0, ?_⟩
        obtain ⟨hpl, hpx⟩ := pre_at hpre
        have hql : q + 1 < X0.heap.size := blk_lt_any hl0
        have hl1 : (X0.putObj (q + 1) (.loop (rc .busy none))).heap[q + 1]? = some (.loop (rc .busy none)) := World.putObj_heap_same hql
        have hja1 : JA W4.heap.size W4 bR bN r pre.length q Ds (X0.putObj (q + 1) (.loop (rc .busy none))) := hja.put (by omega) (by omega) (by omega) (fun E hE => by have := hdl E hE; omega) (by omega) _
        have KA1 := Aside0.mk (show ∀ Y, KA W1.heap.size (X0.putObj (q + 1) (.loop (rc .busy none))) Y → KA W1.heap.size X0 Y from fun Y h => ⟨fun k o hk ho => h.1 k o hk ((World.putObj_heap_other (by omega)).trans ho), (KeepsWalks.putObj _ hl0 rfl).trans h.2⟩)
        generalize X0.putObj (q + 1) (.loop (rc .busy none)) = X1 at hl1 hja1 KA1 ⊢
        have hfx1 := HFX.out.below hja1.1
        obtain ⟨ad, e, hab, c0, c1⟩ := hfx1.2.2.2.2.2.2 pre.length hpl
        subst e
        rw [hpx] at c0 c1
        have yN : X1.cell? ⟨bN, 0, none⟩ = some (.int .i64 (pre.length : Int)) := (blk_cell hja1.2.2.1 0).trans rfl
        have yR : X1.cell? ⟨bR, 0, none⟩ = some (.int .i64 (r : Int)) := (blk_cell hja1.2.1 0).trans rfl
        have yW : X1.cell? ⟨bW, 0, none⟩ = some (.slice (some ad) (lns t).length cw) := (blk_cell hfx1.2.2.2.1 0).trans rfl
        have yS : X1.cell? ⟨w.heap.size, 0, none⟩ = some (.int .i64 off) := (blk_cell hfx1.1 0).trans rfl
        have yT : X1.cell? ⟨bT, 0, none⟩ = some (.int .i64 stop) := (blk_cell hfx1.2.1 0).trans rfl
        have p1 : (0 : Int) ≤ (pre.length : Int) := Int.natCast_nonneg _
        have q1 : (pre.length : Int) < ((lns t).length : Int) := Int.ofNat_lt.2 hpl
        have g1 : decide ((pre.length : Int) ≥ ((lns t).length : Int)) = false := decide_eq_false (by omega)
        have g2 : decide (((lns t).length : Int) ≤ (pre.length : Int)) = false := decide_eq_false (by omega)
        have g3 : decide ((lns t).length ≤ pre.length) = false := decide_eq_false (by omega)
        have HPRE := Aside0.mk hpre
        have HPL := Aside0.mk hpl
        have HJA1 := Aside0.mk hja1
        have HL1 := Aside0.mk hl1
        have HSTP := Aside0.mk hstp
        have HFX1 := Aside0.mk hfx1
        obtain ⟨x1, hx1⟩ : ∃ x1 : Nat, x1 = x.1.1 := ⟨_, rfl⟩
        obtain ⟨xt, hxt⟩ : ∃ xt, xt = lnT t x.1 := ⟨_, rfl⟩
        rw [← hx1] at c0 ⊢
        rw [← hxt] at c1 ⊢
        clear hx1 hxt hja hl0 hl1 hja1 hfx1 hpre hstp hpx hlen hab
        have hwx : IntKind.i64.wrap (off + (x1 : Int)) = wrap64 (off + (x1 : Int)) := by first | exact i64_w _ | exact IntKind.wrap_i64 _
        have q2 : (pre.length < (lns t).length) = True := eq_true HPL.out
        have q3 : decide (pre.length < (lns t).length) = true := decide_eq_true HPL.out
        replace p1 := eq_true p1
        replace q1 := eq_true q1
        refine wpIn_block ?_
        refine wpIn_seq ?_
        refine wpIn_seq ?_
        refine round_quiet rfl (by kernel_rfl) (by kernel_rfl) (by kernel_rfl) ?_
        repeat (quiet_step_in (fail))
        refine wpQuietIn_nil ?_
        intro _ hw'
        obtain ⟨nq, hw''⟩ := hw'
        subst hw''
        have hja2 : JA W4.heap.size W4 bR bN r pre.length q Ds (X1.drewN nq) := HJA1.out.below (by have := HJA1.out.1.size; omega) (pw_below_drewN (Below.refl _ _) nq)
        have hl2 : (X1.drewN nq).heap[q + 1]? = some (.loop (rc .busy none)) := HL1.out
        have KA2 := Aside0.mk (show ∀ Y, KA W1.heap.size (X1.drewN nq) Y → KA W1.heap.size X0 Y from fun Y h => KA1.out Y ⟨fun k o hk ho => h.1 k o hk ho, ⟨h.2.size, fun k o hk ho => h.2.same k o hk ho⟩⟩)
        clear yN yR yW yS yT c0 c1 HJA1 HL1 HFX1 KA1
        generalize X1.drewN nq = X2 at hja2 hl2 KA2 ⊢
        have hfx2 := HFX.out.below hja2.1
        have hx2s : W4.heap.size ≤ X2.heap.size := hja2.1.size
        obtain ⟨n1, hn1⟩ : ∃ n1 : Int, n1 = (pre.length : Int) + 1 := ⟨_, rfl⟩
        have OUT := Aside0.mk (show ∀ Z (a : Act), Below X2.heap.size X2 Z → (r = 0 → n1 ≠ stop) → roundOut (q + 1) rc (fun e W' => (e = .returned (.bool true) ∧ (JA W4.heap.size W4 bR bN r (pre ++ [x]).length q Ds W' ∧ W'.heap[q + 1]? = some (.loop (rc .ready none)) ∧ STP r stop (pre ++ [x]).length) ∧ KA W1.heap.size X0 W') ∨ (e = .returned (.bool false) ∧ (JA W4.heap.size W4 bR bN r (pre ++ [x]).length q Ds W' ∧ W'.heap[q + 1]? = some (.loop (rc .done (some (.exit 2)))) ∧ r = 0 ∧ ((pre ++ [x]).length : Int) = stop) ∧ KA W1.heap.size X0 W')) .normal a (Z.setCell ⟨bN, 0, none⟩ (.int .i64 n1)) from fun Z a hb hns => by
          have z1 := (hja2.below hx2s hb).count (by omega) hrn (by omega) hdn (pre.length + 1)
          have en : ((pre.length + 1 : Nat) : Int) = n1 := by rw [hn1]; rfl
          rw [en] at z1
          have zl : (Z.setCell ⟨bN, 0, none⟩ (.int .i64 n1)).heap[q + 1]? = some (.loop (rc .busy none)) := (Below.heap_setCell Z ⟨bN, 0, none⟩ _ (q + 1) (show q + 1 ≠ bN by omega)).trans ((hb.block _ (blk_lt_any hl2)).trans hl2)
          refine ⟨zl, .inl ⟨rfl, ⟨by rw [List.length_append, List.length_singleton]; exact z1.put (by omega) (by omega) (by omega) (fun E hE => by have := hdl E hE; omega) (by omega) _, World.putObj_heap_same (blk_lt_any zl), fun h0 j j1 j2 => ?_⟩, ?_⟩⟩
          · rw [List.length_append, List.length_singleton] at j2
            rcases Nat.lt_or_ge pre.length j with h | h
            · have hj : j = pre.length + 1 := by omega
              rw [hj, en]
              exact hns h0
            · exact HSTP.out h0 j j1 h
          · exact KA2.out _ ⟨fun k o hk ho => (World.putObj_heap_other (by omega)).trans ((Below.heap_setCell Z ⟨bN, 0, none⟩ _ k (show k ≠ bN by omega)).trans ((hb.block _ (blk_lt_any ho)).trans ho)), ((⟨hb.size, fun k o ho _ => (hb.block _ (blk_lt_any ho)).trans ho⟩ : KeepsWalks X2 Z).trans (KeepsWalks.setCell _ _ _)).trans (KeepsWalks.putObj _ zl rfl)⟩)
        have OUTX := Aside0.mk (show ∀ Z (a : Act), Below X2.heap.size X2 Z → r = 0 → n1 = stop → roundOut (q + 1) rc (fun e W' => (e = .returned (.bool true) ∧ (JA W4.heap.size W4 bR bN r (pre ++ [x]).length q Ds W' ∧ W'.heap[q + 1]? = some (.loop (rc .ready none)) ∧ STP r stop (pre ++ [x]).length) ∧ KA W1.heap.size X0 W') ∨ (e = .returned (.bool false) ∧ (JA W4.heap.size W4 bR bN r (pre ++ [x]).length q Ds W' ∧ W'.heap[q + 1]? = some (.loop (rc .done (some (.exit 2)))) ∧ r = 0 ∧ ((pre ++ [x]).length : Int) = stop) ∧ KA W1.heap.size X0 W')) (.exit 2) a (Z.setCell ⟨bN, 0, none⟩ (.int .i64 n1)) from fun Z a hb h0 hns => by
          have z1 := (hja2.below hx2s hb).count (by omega) hrn (by omega) hdn (pre.length + 1)
          have en : ((pre.length + 1 : Nat) : Int) = n1 := by rw [hn1]; rfl
          rw [en] at z1
          have zl : (Z.setCell ⟨bN, 0, none⟩ (.int .i64 n1)).heap[q + 1]? = some (.loop (rc .busy none)) := (Below.heap_setCell Z ⟨bN, 0, none⟩ _ (q + 1) (show q + 1 ≠ bN by omega)).trans ((hb.block _ (blk_lt_any hl2)).trans hl2)
          refine ⟨zl, .inr ⟨rfl, ⟨by rw [List.length_append, List.length_singleton]; exact z1.put (by omega) (by omega) (by omega) (fun E hE => by have := hdl E hE; omega) (by omega) _, World.putObj_heap_same (blk_lt_any zl), h0, by rw [List.length_append, List.length_singleton, en]; exact hns⟩, ?_⟩⟩
          exact KA2.out _ ⟨fun k o hk ho => (World.putObj_heap_other (by omega)).trans ((Below.heap_setCell Z ⟨bN, 0, none⟩ _ k (show k ≠ bN by omega)).trans ((hb.block _ (blk_lt_any ho)).trans ho)), ((⟨hb.size, fun k o ho _ => (hb.block _ (blk_lt_any ho)).trans ho⟩ : KeepsWalks X2 Z).trans (KeepsWalks.setCell _ _ _)).trans (KeepsWalks.putObj _ zl rfl)⟩)
        have TAILF := Aside0.mk (show ∀ Z, Below X2.heap.size X2 Z → Z.cell? ⟨bN, 0, none⟩ = some (.int .i64 (pre.length : Int)) ∧ Z.frozen? ⟨bN, 0, none⟩ = false ∧ (Z.setCell ⟨bN, 0, none⟩ (.int .i64 n1)).cell? ⟨bN, 0, none⟩ = some (.int .i64 n1) ∧ (Z.setCell ⟨bN, 0, none⟩ (.int .i64 n1)).cell? ⟨bR, 0, none⟩ = some (.int .i64 (r : Int)) ∧ (Z.setCell ⟨bN, 0, none⟩ (.int .i64 n1)).cell? ⟨bT, 0, none⟩ = some (.int .i64 stop) from fun Z hb => by
          have z1 := hja2.below hx2s hb
          have z2 := HFX.out.below z1.1
          refine ⟨(blk_cell z1.2.2.1 0).trans rfl, Boxed.frozen z1.2.2.1, (blk_cell (box_set z1.2.2.1 _) 0).trans rfl, ?_, ?_⟩
          · exact (blk_cell ((Below.heap_setCell Z ⟨bN, 0, none⟩ _ bR hrn).trans z1.2.1) 0).trans rfl
          · exact (blk_cell ((Below.heap_setCell Z ⟨bN, 0, none⟩ _ bT (show bT ≠ bN by have := blk_lt HFX.out.2.1; omega)).trans z2.2.1) 0).trans rfl)
        have hw5 : wrap64 ((pre.length : Int) + 1) = n1 := by rw [hn1]; have := HPL.out; have := HNN.out; have := HTS.out; unfold wrap64; omega
        have hw6 : IntKind.i64.wrap ((pre.length : Int) + 1) = n1 := (by first | exact (i64_w _).trans hw5 | exact (IntKind.wrap_i64 _).trans hw5)
        have y2N : X2.cell? ⟨bN, 0, none⟩ = some (.int .i64 (pre.length : Int)) := (TAILF.out X2 (Below.refl _ _)).1
        have HFX2 := Aside0.mk hfx2
        have HL2 := Aside0.mk hl2
        have HJA2 := Aside0.mk hja2
        clear hn1 hfx2 hl2 hja2
        refine wpIn_cond_false rfl ?_
        by_cases hp0 : pre.length = 0
        · have f0 : ((pre.length : Int) == 0) = true := by rw [hp0]; rfl
          have f0' : decide ((pre.length : Int) = 0) = true := decide_eq_true (by omega)
          have yL3 : (X2.alloc (.cells #[.int .i64 0] 3)).cell? ⟨bL, 0, none⟩ = some (.func (.func 28) #[] #[.pointer (some ⟨bQ, 0, none⟩)]) := (blk_cell ((World.alloc_heap_old X2 _ (blk_lt HFX2.out.2.2.2.2.2.1)).trans HFX2.out.2.2.2.2.2.1) 0).trans rfl
          clear hp0
          gi_wp2
          have hi0 : (X2.alloc (.cells #[.int .i64 0] 3)).heap[X2.heap.size]? = some (.cells #[.int .i64 ((0 : Nat) : Int)] 3 (0, 0)) := World.alloc_heap_new X2 _
          have hb23 : Below X2.heap.size X2 (X2.alloc (.cells #[.int .i64 0] 3)) := below_alloc (Below.refl _ X2) _
          have hsz3 : (X2.alloc (.cells #[.int .i64 0] 3)).heap.size = X2.heap.size + 1 := by simp
          have hl3 : (X2.alloc (.cells #[.int .i64 0] 3)).heap[q + 1]? = some (.loop (rc .busy none)) := (World.alloc_heap_old X2 _ (blk_lt_any HL2.out)).trans HL2.out
          have hfx3 := HFX2.out.below hb23
          generalize hbi : X2.heap.size = bI at hi0 hsz3 ⊢
          generalize X2.alloc (.cells #[.int .i64 0] 3) = X3 at hi0 hb23 hsz3 hl3 hfx3 yL3 ⊢
          have HBI := Aside0.mk hbi
          clear hbi y2N yL3
          refine loop_inner (l0 := q + 1) (r0 := rc .busy none) rfl hl3 (by decide) (gf := 28) (lb := #[.pointer (some ⟨bQ, 0, none⟩)]) rfl trivial (enters_of Try.func28 (by kernel_rfl) rfl) ?_
          intro fn2 rc2 hfn2 hrc2
          have HRC2 := Aside0.mk hrc2
          clear hrc2
          have g1_ : (X3.alloc (.loop (rc2 .ready none))).heap[X3.heap.size]? = some (.loop (rc2 .ready none)) := World.alloc_heap_new X3 _
          have g2_ : But2 bI X3 (X3.alloc (.loop (rc2 .ready none))) := ⟨rfl, rfl, rfl, by simp, fun k hk _ _ => World.alloc_heap_old X3 _ hk⟩
          have g3_ : (X3.alloc (.loop (rc2 .ready none))).heap[bI]? = some (.cells #[.int .i64 ((0 : Nat) : Int)] 3 (0, 0)) := (World.alloc_heap_old X3 _ (by omega)).trans hi0
          have g4_ : (X3.alloc (.loop (rc2 .ready none))).heap.size = X3.heap.size + 1 := by simp
          generalize X3.alloc (.loop (rc2 .ready none)) = W3 at g1_ g2_ g3_ g4_ ⊢
          obtain ⟨p, hp⟩ : ∃ p, p = X3.heap.size := ⟨_, rfl⟩
          rw [← hp] at g1_ g4_ hsz3 ⊢
          have hpb1 : bI + 1 ≤ p := by omega
          have hpb2 : p ≤ bI + 1 := by omega
          have HP := Aside0.mk hp
          have hg4a : W3.heap.size ≤ p + 1 := by omega
          have hg4b : p + 1 ≤ W3.heap.size := by omega
          have hqb : bQ < p := by rw [hp]; exact blk_lt hfx3.2.2.2.2.1
          have hqbi : bQ ≠ bI := by have := blk_lt HFX2.out.2.2.2.2.1; have := HBI.out; omega
          clear hsz3 hp g4_
          refine (CallsIn.inRound (q + 1) (wide_any (All1_in p bQ off t (by have := HTS.out; omega)
            (fun pre2 Y => But2 bI X3 Y ∧ Y.heap[bI]? = some (.cells #[.int .i64 (pre2.length : Int)] 3 (0, 0)) ∧ Y.heap[p]? = some (.loop (rc2 .ready none)))
            (fun _ _ => False)
            W3 ?own2 (fun _ _ _ _ h _ _ => h) ?yield2 ?hs2 ?h02))).mono ?behind2
          case own2 =>
            intro s A B row hs hg hr3
            have hr4 : ∀ r, row = some r → p + 1 ≤ r ∧ ∃ o : Obj, A.heap[r]? = some o ∧ o.isCells = false := fun r e => ⟨by have := (hr3 r e).1; omega, (hr3 r e).2⟩
            exact ⟨but2_own bI X3 s A B row hs.1 hg (fun r e => ⟨by have := (hr4 r e).1; have := HP.out; omega, (hr4 r e).2⟩), stays (n := p + 1) (by omega) hs.2.1 hg hr4, stays (n := p + 1) (by omega) hs.2.2 hg hr4⟩
          case hs2 =>
            rintro pre2 Y ⟨hb2, _, _⟩
            exact (hb2.2.2.2.2 bQ (by have := HP.out; omega) hqbi (by omega)).trans hfx3.2.2.2.2.1
          case h02 => exact ⟨g2_, g3_, g1_⟩
          case yield2 =>
            rintro pre2 x2 Y0 ⟨hb2, hbi2, hl5⟩ hlen2 hpre2
            refine yield_rc hfn2 HRC2.out hl5 rfl ?_
            refine wpIn_skip ?_
            refine ⟨hl5, ?_⟩
            dsimp only [allV]
            have k1 : (Y0.putObj p (.loop (rc2 .busy none))).heap[p]? = some (.loop (rc2 .busy none)) := World.putObj_heap_same (blk_lt_any hl5)
            have k2 : (Y0.putObj p (.loop (rc2 .busy none))).heap[bI]? = some (.cells #[.int .i64 (pre2.length : Int)] 3 (0, 0)) := (World.putObj_heap_other (by omega)).trans hbi2
            have k3 : But2 bI X3 (Y0.putObj p (.loop (rc2 .busy none))) := ⟨hb2.1, hb2.2.1, hb2.2.2.1, by rw [put_size]; exact hb2.2.2.2.1, fun k hk e1 e2 => (World.putObj_heap_other (by have := HP.out; omega)).trans (hb2.2.2.2.2 k hk e1 e2)⟩
            have k4 := Aside0.mk (show ∀ Y, KA W3.heap.size (Y0.putObj p (.loop (rc2 .busy none))) Y → KA W3.heap.size Y0 Y from fun Y h => ⟨fun k o hk ho => h.1 k o hk ((World.putObj_heap_other (by omega)).trans ho), (KeepsWalks.putObj _ hl5 rfl).trans h.2⟩)
            generalize Y0.putObj p (.loop (rc2 .busy none)) = Y1 at k1 k2 k3 k4 ⊢
            have zI : Y1.cell? ⟨bI, 0, none⟩ = some (.int .i64 (pre2.length : Int)) := (blk_cell k2 0).trans rfl
            have zF : Y1.frozen? ⟨bI, 0, none⟩ = false := Boxed.frozen k2
            obtain ⟨n2, hn2⟩ : ∃ n2 : Int, n2 = (pre2.length : Int) + 1 := ⟨_, rfl⟩
            have wz5 : wrap64 ((pre2.length : Int) + 1) = n2 := by rw [hn2]; have := HNN.out; have := HTS.out; unfold wrap64; omega
            have wz6 : IntKind.i64.wrap ((pre2.length : Int) + 1) = n2 := (by first | exact (i64_w _).trans wz5 | exact (IntKind.wrap_i64 _).trans wz5)
            have OUT3 := Aside0.mk (show ∀ a : Act, roundOut p rc2 (fun e W' => (e = .returned (.bool true) ∧ (But2 bI X3 W' ∧ W'.heap[bI]? = some (.cells #[.int .i64 ((pre2 ++ [x2]).length : Int)] 3 (0, 0)) ∧ W'.heap[p]? = some (.loop (rc2 .ready none))) ∧ KA W3.heap.size Y0 W') ∨ (e = .returned (.bool false) ∧ False ∧ KA W3.heap.size Y0 W')) .normal a (Y1.setCell ⟨bI, 0, none⟩ (.int .i64 n2)) from fun a => by
              have en : (((pre2 ++ [x2]).length : Nat) : Int) = n2 := by rw [hn2, List.length_append, List.length_singleton]; rfl
              have m1 := k3.set bI (.inl rfl) (.int .i64 n2)
              have m2 : (Y1.setCell ⟨bI, 0, none⟩ (.int .i64 n2)).heap[p]? = some (.loop (rc2 .busy none)) := (Below.heap_setCell Y1 ⟨bI, 0, none⟩ _ p (show p ≠ bI by omega)).trans k1
              rw [en]
              exact ⟨m2, .inl ⟨rfl, ⟨⟨m1.1, m1.2.1, m1.2.2.1, by rw [put_size]; exact m1.2.2.2.1, fun k hk e1 e2 => (World.putObj_heap_other (by have := HP.out; omega)).trans (m1.2.2.2.2 k hk e1 e2)⟩, (World.putObj_heap_other (by omega)).trans (box_set k2 _), World.putObj_heap_same (blk_lt_any m2)⟩,
                k4.out _ ⟨fun k o hk ho => (World.putObj_heap_other (by omega)).trans ((Below.heap_setCell Y1 ⟨bI, 0, none⟩ _ k (show k ≠ bI by omega)).trans ho), (KeepsWalks.setCell _ _ _).trans (KeepsWalks.putObj _ m2 rfl)⟩⟩⟩)
            clear hn2 k1 k2 k3 k4 hb2 hbi2 hl5
            gi_wp2
            have z := OUT3.out
            first | exact z _ | (simp only [List.length_append, List.length_cons, List.length_nil, Nat.zero_add, Int.natCast_add] at z; exact z _) | simpa using z _
          case behind2 =>
            rintro e W6 ⟨⟨v, rfl⟩, h⟩
            obtain ⟨ys, hys, hb2, hbi2, hl5⟩ := h.resolve_right (fun ⟨_, _, h⟩ => h)
            refine ⟨⟨_, rfl⟩, .ready, none, by decide, hl5, ?_⟩
            dsimp only
            have hyl : ys.length = (lns t).length := by rw [← hys, List.length_map]
            rw [hyl] at hbi2
            have hbZ : Below X2.heap.size X2 (W6.putObj p (.loop (rc2 .exhausted none))) := ⟨hb2.1.trans hb23.os, hb2.2.1.trans hb23.tape, hb2.2.2.1.trans hb23.output, by rw [put_size]; have := hb2.2.2.2.1; have := hb23.size; omega, fun k hk => (World.putObj_heap_other (by have := HBI.out; omega)).trans ((hb2.2.2.2.2 k (by have := hb23.size; omega) (by have := HBI.out; omega) (by have := HBI.out; omega)).trans (hb23.block k hk))⟩
            have zI : (W6.putObj p (.loop (rc2 .exhausted none))).heap[bI]? = some (.cells #[.int .i64 ((lns t).length : Int)] 3 (0, 0)) := (World.putObj_heap_other (by omega)).trans hbi2
            generalize W6.putObj p (.loop (rc2 .exhausted none)) = Z at hbZ zI ⊢
            have zIc : Z.cell? ⟨bI, 0, none⟩ = some (.int .i64 ((lns t).length : Int)) := (blk_cell zI 0).trans rfl
            have zW : Z.cell? ⟨bW, 0, none⟩ = some (.slice (some ad) (lns t).length cw) := (blk_cell (HFX2.out.below hbZ).2.2.2.1 0).trans rfl
            have zne : (((lns t).length : Int) != ((lns t).length : Int)) = false := by simp
            obtain ⟨zN, zF, zN2, zR, zT⟩ := TAILF.out Z hbZ
            have HBZ := Aside0.mk hbZ
            clear hbZ zI hb2 hbi2 hl5 hys hyl
            by_cases hr0 : r = 0
            · have r0 : ((r : Int) == 0) = true := by simp; omega
              have r0' : decide ((r : Int) = 0) = true := by simp; omega
              by_cases hs1 : n1 = stop
              · have s1 : (n1 == stop) = true := by simpa using hs1
                have s1' : decide (n1 = stop) = true := by simpa using hs1
                have HS1 := Aside0.mk hs1
                have HR0 := Aside0.mk hr0
                clear hs1 hr0
                gi_wp2
                have z := fun a => OUTX.out Z a HBZ.out HR0.out HS1.out
                first | exact z _ | (simp only [List.length_append, List.length_cons, List.length_nil, Nat.zero_add, Int.natCast_add] at z; exact z _) | simpa using z _
              · have s1 : (n1 == stop) = false := by simpa using hs1
                have s1' : decide (n1 = stop) = false := by simpa using hs1
                have HS1 := Aside0.mk hs1
                clear hs1 hr0
                gi_wp2
                have z := fun a => OUT.out Z a HBZ.out (fun _ => HS1.out)
                first | exact z _ | (simp only [List.length_append, List.length_cons, List.length_nil, Nat.zero_add, Int.natCast_add] at z; exact z _) | simpa using z _
            · have r0 : ((r : Int) == 0) = false := by simp; omega
              have r0' : decide ((r : Int) = 0) = false := by simp; omega
              have HR0 := Aside0.mk hr0
              clear hr0
              gi_wp2
              have z := fun a => OUT.out Z a HBZ.out (fun h => absurd h HR0.out)
              first | exact z _ | (simp only [List.length_append, List.length_cons, List.length_nil, Nat.zero_add, Int.natCast_add] at z; exact z _) | simpa using z _
        · have f0 : ((pre.length : Int) == 0) = false := by rw [beq_eq_false_iff_ne]; omega
          have f0' : decide ((pre.length : Int) = 0) = false := decide_eq_false (by omega)
          obtain ⟨zN, zF, zN2, zR, zT⟩ := TAILF.out X2 (Below.refl _ _)
          clear hp0
          by_cases hr0 : r = 0
          · have r0 : ((r : Int) == 0) = true := by simp; omega
            have r0' : decide ((r : Int) = 0) = true := by simp; omega
            by_cases hs1 : n1 = stop
            · have s1 : (n1 == stop) = true := by simpa using hs1
              have s1' : decide (n1 = stop) = true := by simpa using hs1
              have HS1 := Aside0.mk hs1
              have HR0 := Aside0.mk hr0
              clear hs1 hr0
              gi_wp2
              have z := fun a => OUTX.out X2 a (Below.refl _ _) HR0.out HS1.out
              first | exact z _ | (simp only [List.length_append, List.length_cons, List.length_nil, Nat.zero_add, Int.natCast_add] at z; exact z _) | simpa using z _
            · have s1 : (n1 == stop) = false := by simpa using hs1
              have s1' : decide (n1 = stop) = false := by simpa using hs1
              have HS1 := Aside0.mk hs1
              clear hs1 hr0
              gi_wp2
              have z := fun a => OUT.out X2 a (Below.refl _ _) (fun _ => HS1.out)
              first | exact z _ | (simp only [List.length_append, List.length_cons, List.length_nil, Nat.zero_add, Int.natCast_add] at z; exact z _) | simpa using z _
          · have r0 : ((r : Int) == 0) = false := by simp; omega
            have r0' : decide ((r : Int) = 0) = false := by simp; omega
            have HR0 := Aside0.mk hr0
            clear hr0
            gi_wp2
            have z := fun a => OUT.out X2 a (Below.refl _ _) (fun h => absurd h HR0.out)
            first | exact z _ | (simp only [List.length_append, List.length_cons, List.length_nil, Nat.zero_add, Int.natCast_add] at z; exact z _) | simpa using z _
      case behind =>
        rintro e W7 ⟨⟨v, rfl⟩, h⟩
        rcases h with ⟨ys, hys, hja, hl, hstp⟩ | ⟨pre, hpre, hja, hl, hr0, hstp⟩
        · refine ⟨⟨_, rfl⟩, .ready, none, by decide, hl, ?_⟩
          dsimp only
          have hyl : ys.length = (lns t).length := by rw [← hys, List.length_map]
          rw [hyl] at hja
          have hz := hja.put (l := q + 1) (by omega) (by omega) (by omega) (fun E hE => by have := hdl E hE; omega) (by omega) (.loop (rc .exhausted none))
          generalize W7.putObj (q + 1) (.loop (rc .exhausted none)) = Z at hz ⊢
          have zN : Z.cell? ⟨bN, 0, none⟩ = some (.int .i64 ((lns t).length : Int)) := (blk_cell hz.2.2.1 0).trans rfl
          have zR : Z.cell? ⟨bR, 0, none⟩ = some (.int .i64 (r : Int)) := (blk_cell hz.2.1 0).trans rfl
          have zW : Z.cell? ⟨bW, 0, none⟩ = some (.slice Aw (lns t).length cw) := (blk_cell (HFX.out.below hz.1).2.2.2.1 0).trans rfl
          have zne : (((lns t).length : Int) != ((lns t).length : Int)) = false := by simp
          have hwr : wrap64 ((r : Int) + 1) = ((r + 1 : Nat) : Int) := by unfold wrap64; omega
          have hwr2 : IntKind.i64.wrap ((r : Int) + 1) = ((r + 1 : Nat) : Int) := (by first | exact (i64_w _).trans hwr | exact (IntKind.wrap_i64 _).trans hwr)
          have HZ := Aside0.mk hz
          clear hz hja hl hstp hys hyl
          rw [marks_cons]
          gi_wp2
          have hls2 : LS W4.heap.size W4 (Z.alloc (.cells #[.int .i64 ((r : Int) + 1)] 3)) (r + 1) Z.heap.size (q :: Ds) := HZ.out.next (r + 1) (by have := HZ.out.1.size; omega) hq4 (fun h => by have := hdl q h; omega) hds
          exact HJK.out.2 _ _ ⟨_, by omega, HJK.out.1 _ _ _ ⟨r + 1, Z.heap.size, q :: Ds, upd (upd (upd (upd (upd (upd (upd (upd (upd (upd (upd (upd (upd (upd (upd (upd (upd (upd (upd (upd (u) 8 _) 19 _) 20 _) 21 _) 22 _) 23 _) 71 _) 72 _) 73 _) 74 _) 75 _) 76 _) 77 _) 78 _) 79 _) 80 _) 81 _) 82 _) 83 _) 84 _, rfl, by omega, ⟨hls2⟩, rfl⟩⟩
        · refine ⟨⟨_, rfl⟩, .done, some (.exit 2), by decide, hl, ?_⟩
          dsimp only
          have hz := hja.put (l := q + 1) (by omega) (by omega) (by omega) (fun E hE => by have := hdl E hE; omega) (by omega) (.loop (rc .exhausted (some (.exit 2))))
          generalize W7.putObj (q + 1) (.loop (rc .exhausted (some (.exit 2)))) = Z at hz ⊢
          have zN : Z.cell? ⟨bN, 0, none⟩ = some (.int .i64 (pre.length : Int)) := (blk_cell hz.2.2.1 0).trans rfl
          have zR : Z.cell? ⟨bR, 0, none⟩ = some (.int .i64 (r : Int)) := (blk_cell hz.2.1 0).trans rfl
          have zT : Z.cell? ⟨bT, 0, none⟩ = some (.int .i64 stop) := (blk_cell (HFX.out.below hz.1).2.1 0).trans rfl
          have zW : Z.cell? ⟨bW, 0, none⟩ = some (.slice Aw (lns t).length cw) := (blk_cell (HFX.out.below hz.1).2.2.2.1 0).trans rfl
          have hwr : wrap64 ((r : Int) + 1) = ((r + 1 : Nat) : Int) := by unfold wrap64; omega
          have hwr2 : IntKind.i64.wrap ((r : Int) + 1) = ((r + 1 : Nat) : Int) := (by first | exact (i64_w _).trans hwr | exact (IntKind.wrap_i64 _).trans hwr)
          rw [hstp] at zN
          have HZ := Aside0.mk hz
          clear hz hja hl hpre hstp
          rw [marks_cons]
          have r1 : ((r : Int) == 1) = false := by rw [beq_eq_false_iff_ne]; omega
          have r1' : decide ((r : Int) = 1) = false := decide_eq_false (by omega)
          have sne : (stop != stop) = false := by simp
          clear hr0
          by_cases hbb : stop = ((lns t).length : Int)
          · have b1 : (stop != ((lns t).length : Int)) = false := by simpa using hbb
            have b2 : decide (stop = ((lns t).length : Int)) = true := decide_eq_true hbb
            clear hbb
            gi_wp2
            have hls2 : LS W4.heap.size W4 (Z.alloc (.cells #[.int .i64 ((r : Int) + 1)] 3)) (r + 1) Z.heap.size (q :: Ds) := HZ.out.next (r + 1) (by have := HZ.out.1.size; omega) hq4 (fun h => by have := hdl q h; omega) hds
            exact HJK.out.2 _ _ ⟨_, by omega, HJK.out.1 _ _ _ ⟨r + 1, Z.heap.size, q :: Ds, upd (upd (upd (upd (upd (upd (upd (upd (upd (upd (upd (upd (upd (upd (upd (upd (upd (upd (upd (upd (u) 8 _) 19 _) 20 _) 21 _) 22 _) 23 _) 71 _) 72 _) 73 _) 74 _) 75 _) 76 _) 77 _) 78 _) 79 _) 80 _) 81 _) 82 _) 83 _) 84 _, rfl, by omega, ⟨hls2⟩, rfl⟩⟩
          · have b1 : (stop != ((lns t).length : Int)) = true := by simpa using hbb
            have b2 : decide (stop = ((lns t).length : Int)) = false := decide_eq_false hbb
            clear hbb
            gi_wp2
            have hls2 : LS W4.heap.size W4 (Z.alloc (.cells #[.int .i64 ((r : Int) + 1)] 3)) (r + 1) Z.heap.size (q :: Ds) := HZ.out.next (r + 1) (by have := HZ.out.1.size; omega) hq4 (fun h => by have := hdl q h; omega) hds
            exact HJK.out.2 _ _ ⟨_, by omega, HJK.out.1 _ _ _ ⟨r + 1, Z.heap.size, q :: Ds, upd (upd (upd (upd (upd (upd (upd (upd (upd (upd (upd (upd (upd (upd (upd (upd (upd (upd (upd (upd (u) 8 _) 19 _) 20 _) 21 _) 22 _) 23 _) 71 _) 72 _) 73 _) 74 _) 75 _) 76 _) 77 _) 78 _) 79 _) 80 _) 81 _) 82 _) 83 _) 84 _, rfl, by omega, ⟨hls2⟩, rfl⟩⟩
    · have d1 : decide ((r : Int) < 2) = false := decide_eq_false (by omega)
      have zE : V.cell? ⟨bE, 0, none⟩ = some (.bool false) := (blk_cell hfx.2.2.1 0).trans rfl
      have zF : V.frozen? ⟨bE, 0, none⟩ = false := Boxed.frozen hfx.2.2.1
      have HFX1 := Aside0.mk hfx
      clear hfx
      gi_wp2
      have hm : Marked Ds (V.setCell ⟨bE, 0, none⟩ (.bool true)) := HL.out.2.2.2.1.same (fun E hE => Below.heap_setCell V ⟨bE, 0, none⟩ _ E (fun e => by
        have h1 := HL.out.2.2.2.1.2 E hE
        have h2 := HFX1.out.2.2.1
        rw [show E = bE from e, h2] at h1
        cases h1))
      have hE1 : (V.setCell ⟨bE, 0, none⟩ (.bool true)).heap[bE]? = some (.cells #[.bool true] 4 (0, 0)) := Boxed.set _ HFX1.out.2.2.1
      have hlE : w.heap.size ≤ bE := HBE.out
      have hbel : Below w.heap.size w (V.setCell ⟨bE, 0, none⟩ (.bool true)) := (below_after HBW.out HL.out.1).setCell (p := ⟨bE, 0, none⟩) hlE _
      refine leaves_marks Ds _ hm fun W' hSh => ?_
      have hnE : bE ∉ Ds := fun h => by have := HL.out.2.2.2.2 bE h; have := blk_lt HFX.out.2.2.1; omega
      refine ⟨_, results_f3 _ W' bE rfl ((blk_cell ((hSh.2.2.2.2 bE hnE).trans hE1) 0).trans rfl), rfl, hSh.grown hbel (fun E hE => ?_) ?_⟩
      · have := HL.out.2.2.2.2 E hE; have := HBW.out.size; omega
      · have := hbel.size; omega
/-- The law as a function with a contract: true of whatever is not too long. -/
def winnowlaw13_LinesAll.f (a0_0 : Int) (a0_1 : ByteArray) (a1 : Int) : Option Bool := if a0_1.size ≤ 4194304 ∧ (-9223372036854775808 ≤ a1 ∧ a1 ≤ 9223372036854775807) then some true else none
theorem winnowlaw13_LinesAll.calls (a0_0 : Int) (a0_1 : ByteArray) (a1 : Int) (r : Bool) (w : World) (h : winnowlaw13_LinesAll.f a0_0 a0_1 a1 = some r) :
    Calls Try.prog 3 #[.agg #[.int .i64 a0_0, .string a0_1], .int .i64 a1] w fun e w' => e = .returned (.bool r) ∧ Below w.heap.size w w' := by
  unfold winnowlaw13_LinesAll.f at h
  by_cases hc : a0_1.size ≤ 4194304 ∧ (-9223372036854775808 ≤ a1 ∧ a1 ≤ 9223372036854775807)
  · rw [if_pos hc] at h
    injection h with h
    subst h
    exact callsIn_wide.1 (LinesAll_walk a0_0 a1 a0_1 w hc.1 hc.2)
  · rw [if_neg hc] at h
    cases h
end Go.Proofs.Ytbcggfjfgoabpaa.P

end
