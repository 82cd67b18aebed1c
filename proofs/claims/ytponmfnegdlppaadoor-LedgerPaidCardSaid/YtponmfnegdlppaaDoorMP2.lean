/- Several texts laid together (wip/tools/merge2.py): Pf34, HTab, HEnv, HNote, LedPlain. -/
import Derived.Test.YtponmfnegdlppaaDoorMP1
import Derived.Test.YtponmfnegdlppaaDoorRows
import Derived.Lib.LaidTab
section
-- Written by a program of this session (wip/tools/hprint.py, over the kit's printer), not by hand. Lean checks it.
namespace Go.Proofs.YtponmfnegdlppaaDoor.P
open Go.RowKit Go.Proofs.YtponmfnegdlppaaDoorW.PrintWords Go.Proofs.YtponmfnegdlppaaDoorW.PrintLast Go.Proofs.YtponmfnegdlppaaDoorW.PrintMore
attribute [local go_sem] max2_int min2_int max_two min_two max_three min_three max_four min_four
set_option linter.unusedVariables false
set_option linter.unusedSimpArgs false

/-! ### winnowlaw19_sized: function 34 -/
def winnowlaw19_sized.f (a0_0 : Int) (l0_1 : List (S38)) (l0_2 : List (S38)) (a0_3 : Bool) (a1 : Int) (a2 : Int) : Option (Bool) := if (l0_1.length : Int) = a1 then (some ((l0_2.length : Int) == a2)) else (some false)
set_option maxHeartbeats 8000000 in
set_option maxRecDepth 100000 in
theorem winnowlaw19_sized.calls (a0_0 : Int) (A0_1 : Option Addr) (c0_1 : Nat) (l0_1 : List (S38)) (A0_2 : Option Addr) (c0_2 : Nat) (l0_2 : List (S38)) (a0_3 : Bool) (a1 : Int) (a2 : Int) (r : Bool) (w : World) (hr0_1 : Kd.C k38 w A0_1 l0_1.length l0_1) (hc0_1 : l0_1.length ≤ c0_1) (hr0_2 : Kd.C k38 w A0_2 l0_2.length l0_2) (hc0_2 : l0_2.length ≤ c0_2) (h : winnowlaw19_sized.f a0_0 l0_1 l0_2 a0_3 a1 a2 = some r) :
    Calls Tryd.prog 34 #[.agg #[.int .i64 a0_0, .slice A0_1 l0_1.length c0_1, .slice A0_2 l0_2.length c0_2, .bool a0_3], .int .i64 a1, .int .i64 a2] w fun e w' => e = .returned (.bool r) ∧ Below w.heap.size w w' := by
  have hu24 := Tryd.underlying24
  have HR0_1 := Aside0.mk hr0_1
  have HC0_1 := Aside0.mk hc0_1
  clear hr0_1 hc0_1
  have HR0_2 := Aside0.mk hr0_2
  have HC0_2 := Aside0.mk hc0_2
  clear hr0_2 hc0_2
  have HB := Aside0.mk (Below.refl w.heap.size w)
  have H : (if (l0_1.length : Int) = a1 then (some ((l0_2.length : Int) == a2)) else (some false)) = some r := h
  clear h
  by_cases c4 : (l0_1.length : Int) = a1
  · rw [if_pos c4] at H
    have c4b0 : ((l0_1.length : Int) == a1) = true := beq_iff_eq.mpr c4
    have c4b1 : ((l0_1.length : Int) != a1) = false := bne_eq_false_iff_eq.mpr c4
    clear c4
    obtain rfl := Option.some.inj H
    go_enter Tryd.func34, Tryd.ntmps34
    go_wp2_with (first | ((with_reducible refine gate_dst (N := 3) rfl ?_); (try (refine gate_guard (by rfl) ?_; dsimp only)); refine box_event ?hg (N := 3) ?hd (cs := #[.int .i64 a0_0, .slice A0_1 l0_1.length c0_1, .slice A0_2 l0_2.length c0_2, .bool a0_3]) (t := 24) ?hr ?_; (case hd => rfl); (case hg => rfl); (case hr => first | (go_simp; done) | (go_simp; rfl)); intro gb365 hg w5 hbox hb; have n0_ := Aside0.mk (below_step (by repeat (first | (with_reducible first | exact HB.out | apply below_alloc | apply pw_below_drewN | apply below_drew1) | exact HB.out)) hb); have n1_ := Aside0.mk (hbox); have n2_ := Aside0.mk ((by rw [hg]; exact (below_size (by repeat (first | (with_reducible first | exact HB.out | apply below_alloc | apply pw_below_drewN | apply below_drew1) | exact HB.out))) : w.heap.size ≤ gb365)); have n3_ := Aside0.mk ((by rw [hg]; exact (below_size (by repeat (first | (with_reducible first | exact HB.out | apply below_alloc | apply pw_below_drewN | apply below_drew1) | exact HB.out))) : w.heap.size ≤ gb365)); clear HB; have HB := n0_; have BK365 := n1_; have GW365 := n2_; have GE365 := n3_; clear n0_ n1_ n2_ n3_; clear hb hbox hg; have hcz6_0 : w5.cell? ⟨gb365, 0, none⟩ = some (.int .i64 a0_0) := (blk_cell BK365.out 0).trans rfl; have hcz6_1 : w5.cell? ⟨gb365, 1, none⟩ = some (.slice A0_1 l0_1.length c0_1) := (blk_cell BK365.out 1).trans rfl; have hcz6_2 : w5.cell? ⟨gb365, 2, none⟩ = some (.slice A0_2 l0_2.length c0_2) := (blk_cell BK365.out 2).trans rfl; have hcz6_3 : w5.cell? ⟨gb365, 3, none⟩ = some (.bool a0_3) := (blk_cell BK365.out 3).trans rfl; have hfz6_0 := blk_frozen BK365.out 0; have hfz6_1 := blk_frozen BK365.out 1; have hfz6_2 := blk_frozen BK365.out 2; have hfz6_3 := blk_frozen BK365.out 3))
    go_ret
    exact ⟨by first | rfl | (simp [errW_none, errW_some] <;> rfl) | (simp [*, errW_none, errW_some] <;> rfl), by repeat (first | (with_reducible first | exact HB.out | apply below_alloc | apply pw_below_drewN | apply below_drew1 | refine below_set ?_ GE365.out) | exact HB.out)⟩
  · rw [if_neg c4] at H
    have c4b0 : ((l0_1.length : Int) == a1) = false := beq_eq_false_iff_ne.mpr c4
    have c4b1 : ((l0_1.length : Int) != a1) = true := bne_iff_ne.mpr c4
    obtain rfl := Option.some.inj H
    go_enter Tryd.func34, Tryd.ntmps34
    go_wp2_with (first | ((with_reducible refine gate_dst (N := 3) rfl ?_); (try (refine gate_guard (by rfl) ?_; dsimp only)); refine box_event ?hg (N := 3) ?hd (cs := #[.int .i64 a0_0, .slice A0_1 l0_1.length c0_1, .slice A0_2 l0_2.length c0_2, .bool a0_3]) (t := 24) ?hr ?_; (case hd => rfl); (case hg => rfl); (case hr => first | (go_simp; done) | (go_simp; rfl)); intro gb365 hg w7 hbox hb; have n0_ := Aside0.mk (below_step (by repeat (first | (with_reducible first | exact HB.out | apply below_alloc | apply pw_below_drewN | apply below_drew1) | exact HB.out)) hb); have n1_ := Aside0.mk (hbox); have n2_ := Aside0.mk ((by rw [hg]; exact (below_size (by repeat (first | (with_reducible first | exact HB.out | apply below_alloc | apply pw_below_drewN | apply below_drew1) | exact HB.out))) : w.heap.size ≤ gb365)); have n3_ := Aside0.mk ((by rw [hg]; exact (below_size (by repeat (first | (with_reducible first | exact HB.out | apply below_alloc | apply pw_below_drewN | apply below_drew1) | exact HB.out))) : w.heap.size ≤ gb365)); clear HB; have HB := n0_; have BK365 := n1_; have GW365 := n2_; have GE365 := n3_; clear n0_ n1_ n2_ n3_; clear hb hbox hg; have hcz8_0 : w7.cell? ⟨gb365, 0, none⟩ = some (.int .i64 a0_0) := (blk_cell BK365.out 0).trans rfl; have hcz8_1 : w7.cell? ⟨gb365, 1, none⟩ = some (.slice A0_1 l0_1.length c0_1) := (blk_cell BK365.out 1).trans rfl; have hcz8_2 : w7.cell? ⟨gb365, 2, none⟩ = some (.slice A0_2 l0_2.length c0_2) := (blk_cell BK365.out 2).trans rfl; have hcz8_3 : w7.cell? ⟨gb365, 3, none⟩ = some (.bool a0_3) := (blk_cell BK365.out 3).trans rfl; have hfz8_0 := blk_frozen BK365.out 0; have hfz8_1 := blk_frozen BK365.out 1; have hfz8_2 := blk_frozen BK365.out 2; have hfz8_3 := blk_frozen BK365.out 3))
    go_ret
    exact ⟨by first | rfl | (simp [errW_none, errW_some] <;> rfl) | (simp [*, errW_none, errW_some] <;> rfl), by repeat (first | (with_reducible first | exact HB.out | apply below_alloc | apply pw_below_drewN | apply below_drew1 | refine below_set ?_ GE365.out) | exact HB.out)⟩

end Go.Proofs.YtponmfnegdlppaaDoor.P

end
section
/- The laid variable of the seat: its four cells. -/
namespace Go.Proofs.YtponmfnegdlppaaDoor.P
open Go.RowKit Go.Proofs.YtponmfnegdlppaaDoorW.PrintWords Go.Proofs.YtponmfnegdlppaaDoorW.PrintLast Go.Proofs.YtponmfnegdlppaaDoorW.PrintMore
theorem gSpent : Tryd.prog.globalNamed "winnow/ledger.spent" = some 0 := by kernel_rfl
theorem gSpentType : (Tryd.prog.globals[0]?).map (·.type) = some 70 := by kernel_rfl
theorem cells70 : Tryd.prog.cellsOf 70 = 4 := by kernel_rfl
theorem cells3 : Tryd.prog.cellsOf 3 = 1 := by kernel_rfl
/-- spent's cells -/
structure Tab (w : World) : Prop where
  c0 : w.cell? ⟨0, 0, none⟩ = some (.int .i64 0)
  c1 : w.cell? ⟨0, 1, none⟩ = some (.int .i64 1)
  c2 : w.cell? ⟨0, 2, none⟩ = some (.int .i64 1)
  c3 : w.cell? ⟨0, 3, none⟩ = some (.int .i64 1)
theorem table {W : World} (h : laidMetH Tryd.prog [("winnow/ledger.spent", Rows.laid_winnow_ledger_spent)] W) : Lib.TabIs Tryd.prog W "winnow/ledger.spent" .i64 [0, 1, 1, 1] :=
  Lib.tabIs_of_head (rest := []) gSpent gSpentType Tryd.underlying70 Tryd.underlying3 cells3 cells70 h
theorem tab_of_laid {W : World} (h : laidMetH Tryd.prog [("winnow/ledger.spent", Rows.laid_winnow_ledger_spent)] W) : Tab W :=
  ⟨(table h).cell gSpent 0 (by decide), (table h).cell gSpent 1 (by decide), (table h).cell gSpent 2 (by decide), (table h).cell gSpent 3 (by decide)⟩
theorem Tab.pos {w : World} (h : Tab w) : 0 < w.heap.size := World.block_lt_of_cell? w ⟨0, 0, none⟩ h.c0
theorem Tab.step {w w' : World} {b : Nat} (h : Tab w) (hb : Below b w w') (h0 : 0 < b) : Tab w' :=
  ⟨(hb.cell h0).trans h.c0, (hb.cell h0).trans h.c1, (hb.cell h0).trans h.c2, (hb.cell h0).trans h.c3⟩
theorem Tab.below {w w' : World} (h : Tab w) (hb : Below w.heap.size w w') : Tab w' := h.step hb h.pos
theorem Tab.drew {w : World} (h : Tab w) : Tab w.drew := ⟨h.c0, h.c1, h.c2, h.c3⟩
theorem Tab.drewN {w : World} {n : Nat} (h : Tab w) : Tab (w.drewN n) := h.below (pw_below_drewN (Below.refl _ _) _)
end Go.Proofs.YtponmfnegdlppaaDoor.P

end
section
/- What a walk knows of its memory, told as a list: boxes (blocks known whole) and rows of the call's own, each in blocks of a colour of its own. -/
namespace Go.Proofs.YtponmfnegdlppaaDoor.P
open Go.RowKit Go.Proofs.YtponmfnegdlppaaDoorW.PrintWords Go.Proofs.YtponmfnegdlppaaDoorW.PrintLast Go.Proofs.YtponmfnegdlppaaDoorW.PrintMore
set_option linter.unusedVariables false

def small (l0 l1 : List S38) : Prop := l0.length ≤ 6000000000000 ∧ l1.length ≤ 6000000000000
instance (l0 l1 : List S38) : Decidable (small l0 l1) := by unfold small; infer_instance
/-- a row of the call's own: its colour, its elements' kind and type, its value, its elements -/
structure It where
  c : Nat
  {α : Type}
  d : Kd α
  e : Nat
  v : Value
  l : List α
/-- a box: its block, its cells, its type -/
structure Bx where
  g : Nat
  cs : Array Value
  t : Nat
/-- The state: no block below w0's has changed; each box lies as told; each row lies in blocks of its colour. -/
def Env (w0 : World) (B : List Bx) (R : List It) (W : World) : Prop :=
  Below w0.heap.size w0 W ∧ (B.map (·.g)).Nodup ∧ (R.map (·.c)).Nodup ∧ ∃ col : Nat → Nat,
    (∀ b ∈ B, W.heap[b.g]? = some (.cells b.cs b.t (0, 0)) ∧ w0.heap.size ≤ b.g ∧ col b.g = 0) ∧
    ∀ r ∈ R, r.c ≠ 0 ∧ Kd.R r.d r.e W w0.heap.size (fun k => col k = r.c) r.v r.l
section
variable {w0 W W' : World} {B B' : List Bx} {R R' : List It}
theorem Env.out (h : Env w0 B R W) : Below w0.heap.size w0 W := h.1
theorem Env.size (h : Env w0 B R W) : w0.heap.size ≤ W.heap.size := h.1.size
theorem Env.start (w : World) : Env w [] [] w := ⟨Below.refl _ _, List.nodup_nil, List.nodup_nil, fun _ => 0, fun _ h => (List.not_mem_nil h).elim, fun _ h => (List.not_mem_nil h).elim⟩
theorem Env.below (h : Env w0 B R W) (hb : Below W.heap.size W W') : Env w0 B R W' := by
  obtain ⟨h1, h2, h3, col, hB, hR⟩ := h
  exact ⟨below_step h1 hb, h2, h3, col, fun b m => ⟨blk_below (hB b m).1 hb, (hB b m).2⟩, fun r m => ⟨(hR r m).1, Kd.R_below (hR r m).2 hb⟩⟩
theorem Env.drew (h : Env w0 B R W) : Env w0 B R W.drew := h.below (below_drew (Below.refl _ _))
theorem Env.drewN (h : Env w0 B R W) (n : Nat) : Env w0 B R (W.drewN n) := h.below (pw_below_drewN (Below.refl _ _) n)
/-- less is known -/
theorem Env.sub (h : Env w0 B R W) (hb : B'.Sublist B) (hr : R'.Sublist R) : Env w0 B' R' W := by
  obtain ⟨h1, h2, h3, col, hB, hR⟩ := h
  exact ⟨h1, h2.sublist (hb.map _), h3.sublist (hr.map _), col, fun b m => hB b (hb.subset m), fun r m => hR r (hr.subset m)⟩
/-- the rows in another order -/
theorem Env.rows (h : Env w0 B R W) (hs : ∀ r ∈ R', r ∈ R) (hn : (R'.map (·.c)).Nodup) : Env w0 B R' W := by
  obtain ⟨h1, h2, h3, col, hB, hR⟩ := h
  exact ⟨h1, h2, hn, col, hB, fun r m => hR r (hs r m)⟩
theorem Env.box (h : Env w0 B R W) {b : Bx} (m : b ∈ B) : W.heap[b.g]? = some (.cells b.cs b.t (0, 0)) := by
  obtain ⟨h1, h2, h3, col, hB, hR⟩ := h
  exact (hB b m).1
theorem Env.boxlt (h : Env w0 B R W) {b : Bx} (m : b ∈ B) : b.g < W.heap.size := blk_lt (h.box m)
theorem Env.cell (h : Env w0 B R W) {b : Bx} (m : b ∈ B) (i : Nat) : W.cell? ⟨b.g, i, none⟩ = b.cs[i]? := blk_cell (h.box m) i
theorem Env.frozen (h : Env w0 B R W) {b : Bx} (m : b ∈ B) (i : Nat) : W.frozen? ⟨b.g, i, none⟩ = false := blk_frozen (h.box m) i
theorem Env.read (h : Env w0 B R W) {α : Type} {c e n cp : Nat} {d : Kd α} {A : Option Addr} {l : List α} (m : (⟨c, d, e, .slice A n cp, l⟩ : It) ∈ R) : n = l.length ∧ n ≤ cp ∧ d.C W A l.length l := by
  obtain ⟨h1, h2, h3, col, hB, hR⟩ := h
  exact Kd.R_reads' (hR _ m).2
theorem Env.slice (h : Env w0 B R W) {α : Type} {c e : Nat} {d : Kd α} {v : Value} {l : List α} (m : (⟨c, d, e, v, l⟩ : It) ∈ R) : ∃ A cp, v = .slice A l.length cp := by
  obtain ⟨h1, h2, h3, col, hB, hR⟩ := h
  exact Kd.R_slice (hR _ m).2
theorem Env.at_ (h : Env w0 B R W) (n i : Nat) {g t : Nat} {cs : Array Value} {v : Value} (hn : B[n]? = some ⟨g, cs, t⟩) (hv : cs[i]? = some v) : W.cell? ⟨g, i, none⟩ = some v :=
  (h.cell (List.mem_of_getElem? hn) i).trans hv
theorem Env.fr_ (h : Env w0 B R W) (n i : Nat) {g t : Nat} {cs : Array Value} (hn : B[n]? = some ⟨g, cs, t⟩) : W.frozen? ⟨g, i, none⟩ = false := h.frozen (List.mem_of_getElem? hn) i
theorem Env.blk_ (h : Env w0 B R W) (n : Nat) {g t : Nat} {cs : Array Value} (hn : B[n]? = some ⟨g, cs, t⟩) : W.heap[g]? = some (.cells cs t (0, 0)) := h.box (List.mem_of_getElem? hn)
theorem Env.lt_ (h : Env w0 B R W) (n : Nat) {g t : Nat} {cs : Array Value} (hn : B[n]? = some ⟨g, cs, t⟩) : g < W.heap.size := h.boxlt (List.mem_of_getElem? hn)
/-- the n-th row -/
theorem Env.row_ (h : Env w0 B R W) (n : Nat) {α : Type} {c e m cp : Nat} {d : Kd α} {A : Option Addr} {l : List α} (hn : R[n]? = some (⟨c, d, e, .slice A m cp, l⟩ : It)) : d.C W A l.length l := (h.read (List.mem_of_getElem? hn)).2.2
theorem Env.cap_ (h : Env w0 B R W) (n : Nat) {α : Type} {c e m cp : Nat} {d : Kd α} {A : Option Addr} {l : List α} (hn : R[n]? = some (⟨c, d, e, .slice A m cp, l⟩ : It)) : m = l.length ∧ m ≤ cp := ⟨(h.read (List.mem_of_getElem? hn)).1, (h.read (List.mem_of_getElem? hn)).2.1⟩
theorem Env.own_ (h : Env w0 B R W) (n : Nat) {α : Type} {c e : Nat} {d : Kd α} {v : Value} {l : List α} (hn : R[n]? = some (⟨c, d, e, v, l⟩ : It)) : ∃ P : Nat → Prop, Kd.R d e W w0.heap.size P v l := by
  obtain ⟨h1, h2, h3, col, hB, hR⟩ := h
  exact ⟨_, (hR _ (List.mem_of_getElem? hn)).2⟩
/-- two rows, told apart -/
theorem Env.own2_ (h : Env w0 B R W) (n m : Nat) {α β : Type} {c c' e e' : Nat} {d : Kd α} {d' : Kd β} {v v' : Value} {l : List α} {l' : List β} (hn : R[n]? = some (⟨c, d, e, v, l⟩ : It)) (hm : R[m]? = some (⟨c', d', e', v', l'⟩ : It)) (hne : c ≠ c') :
    Kd.R d e W w0.heap.size (fun k => some k ≠ v'.ownBlock) v l ∧ Kd.R d' e' W w0.heap.size (fun k => some k ≠ v.ownBlock) v' l' := by
  obtain ⟨h1, h2, h3, col, hB, hR⟩ := h
  have q := (hR _ (List.mem_of_getElem? hn)).2
  have q' := (hR _ (List.mem_of_getElem? hm)).2
  exact ⟨Kd.R_mono q (fun k hk e => hne (hk.symm.trans (q'.1 k e.symm))), Kd.R_mono q' (fun k hk e => hne ((q.1 k e.symm).symm.trans hk))⟩
/-- a box is laid -/
theorem Env.push (h : Env w0 B R W) (cs : Array Value) (t : Nat) : Env w0 (⟨W.heap.size, cs, t⟩ :: B) R (W.alloc (.cells cs t)) := by
  have hb := below_alloc (Below.refl W.heap.size W) (.cells cs t)
  have hlt : ∀ b ∈ B, b.g < W.heap.size := fun b m => h.boxlt m
  obtain ⟨h1, h2, h3, col, hB, hR⟩ := h
  refine ⟨below_step h1 hb, ?_, h3, fun k => if k < W.heap.size then col k else 0, ?_, ?_⟩
  · rw [List.map_cons, List.nodup_cons]
    refine ⟨fun hm => ?_, h2⟩
    obtain ⟨b, m, e⟩ := List.mem_map.1 hm
    have h' := hlt b m
    rw [show b.g = W.heap.size from e] at h'
    omega
  · intro b m
    rcases List.mem_cons.1 m with rfl | m
    · exact ⟨heap_alloc_new W _, h1.size, if_neg (Nat.lt_irrefl _)⟩
    · exact ⟨blk_below (hB b m).1 hb, (hB b m).2.1, by dsimp only; rw [if_pos (hlt b m)]; exact (hB b m).2.2⟩
  · intro r m
    refine ⟨(hR r m).1, Kd.R_below (Kd.R_mono (Kd.R_bound (hR r m).2) (fun k hk => ?_)) hb⟩
    dsimp only
    rw [if_pos hk.2.2.1]
    exact hk.1
/-- the first box is written -/
theorem Env.set {g t : Nat} {cs : Array Value} (h : Env w0 (⟨g, cs, t⟩ :: B) R W) (i : Nat) (u : Value) : Env w0 (⟨g, cs.setIfInBounds i u, t⟩ :: B) R (W.setCell ⟨g, i, none⟩ u) := by
  obtain ⟨h1, h2, h3, col, hB, hR⟩ := h
  have h0 := hB _ (List.mem_cons_self ..)
  refine ⟨h1.setCell h0.2.1 _, h2, h3, col, ?_, ?_⟩
  · intro b m
    rcases List.mem_cons.1 m with rfl | m
    · exact ⟨blk_set h0.1 i u, h0.2⟩
    · have hb := hB b (List.mem_cons_of_mem _ m)
      rw [List.map_cons, List.nodup_cons] at h2
      exact ⟨blk_far hb.1 (p := ⟨g, i, none⟩) (fun e => h2.1 (List.mem_map.2 ⟨b, m, e⟩)) u, hb.2⟩
  · intro r m
    exact ⟨(hR r m).1, Kd.R_far (p := ⟨g, i, none⟩) (hR r m).2 (fun k hk e => (hR r m).1 (by rw [← hk, e]; exact h0.2.2)) u⟩
/-- two rows are new -/
theorem Env.rows2 (h : Env w0 B R W) (hb : Below W.heap.size W W') {α β : Type} {d1 : Kd α} {d2 : Kd β} {e1 e2 : Nat} {v1 v2 : Value} {l1 : List α} {l2 : List β} (hE : d1.E = [])
    (r1 : Kd.R d1 e1 W' W.heap.size (fun k => some k ≠ v2.ownBlock) v1 l1) (r2 : Kd.R d2 e2 W' W.heap.size (fun k => some k ≠ v1.ownBlock) v2 l2)
    (c1 c2 : Nat) (hc : (c1 :: c2 :: R.map (·.c)).Nodup) (n1 : c1 ≠ 0) (n2 : c2 ≠ 0) : Env w0 B (⟨c1, d1, e1, v1, l1⟩ :: ⟨c2, d2, e2, v2, l2⟩ :: R) W' := by
  have hlt : ∀ b ∈ B, b.g < W.heap.size := fun b m => h.boxlt m
  obtain ⟨h1, h2, h3, col, hB, hR⟩ := h
  refine ⟨below_step h1 hb, h2, hc, fun k => if k < W.heap.size then col k else if some k = v1.ownBlock then c1 else c2, ?_, ?_⟩
  · intro b m
    exact ⟨blk_below (hB b m).1 hb, (hB b m).2.1, by dsimp only; rw [if_pos (hlt b m)]; exact (hB b m).2.2⟩
  · intro r m
    rcases List.mem_cons.1 m with rfl | m
    · refine ⟨n1, Kd.R_lower (Kd.R_mono (Kd.R_bound (Kd.R_tight hE r1)) (fun k hk => ?_)) h1.size⟩
      dsimp only
      rw [if_neg (by have := hk.2.1; omega), if_pos hk.1]
    rcases List.mem_cons.1 m with rfl | m
    · refine ⟨n2, Kd.R_lower (Kd.R_mono (Kd.R_bound r2) (fun k hk => ?_)) h1.size⟩
      dsimp only
      rw [if_neg (by have := hk.2.1; omega), if_neg hk.1]
    · refine ⟨(hR r m).1, Kd.R_below (Kd.R_mono (Kd.R_bound (hR r m).2) (fun k hk => ?_)) hb⟩
      dsimp only
      rw [if_pos hk.2.2.1]
      exact hk.1
/-- one row is new -/
theorem Env.row1 (h : Env w0 B R W) (hb : Below W.heap.size W W') {α : Type} {d1 : Kd α} {e1 : Nat} {v1 : Value} {l1 : List α} {P : Nat → Prop} (r1 : Kd.R d1 e1 W' W.heap.size P v1 l1)
    (c1 : Nat) (hc : (c1 :: R.map (·.c)).Nodup) (n1 : c1 ≠ 0) : Env w0 B (⟨c1, d1, e1, v1, l1⟩ :: R) W' := by
  have hlt : ∀ b ∈ B, b.g < W.heap.size := fun b m => h.boxlt m
  obtain ⟨h1, h2, h3, col, hB, hR⟩ := h
  refine ⟨below_step h1 hb, h2, hc, fun k => if k < W.heap.size then col k else c1, ?_, ?_⟩
  · intro b m
    exact ⟨blk_below (hB b m).1 hb, (hB b m).2.1, by dsimp only; rw [if_pos (hlt b m)]; exact (hB b m).2.2⟩
  · intro r m
    rcases List.mem_cons.1 m with rfl | m
    · refine ⟨n1, Kd.R_lower (Kd.R_mono (Kd.R_bound r1) (fun k hk => ?_)) h1.size⟩
      dsimp only
      rw [if_neg (by have := hk.2.1; omega)]
    · refine ⟨(hR r m).1, Kd.R_below (Kd.R_mono (Kd.R_bound (hR r m).2) (fun k hk => ?_)) hb⟩
      dsimp only
      rw [if_pos hk.2.2.1]
      exact hk.1
/-- The first row is written (or grows): what a call is to be given, and what it gives back. -/
theorem Env.write {α : Type} {c e : Nat} {d : Kd α} {v : Value} {l : List α} (h : Env w0 B (⟨c, d, e, v, l⟩ :: R) W) : ∃ P : Nat → Prop, Kd.R d e W w0.heap.size P v l ∧
    ∀ (W' : World) (v' : Value) (l' : List α), Kept W W' P → Below w0.heap.size w0 W' → Kd.R d e W' w0.heap.size (fun k => P k ∨ W.heap.size ≤ k) v' l' → Env w0 B (⟨c, d, e, v', l'⟩ :: R) W' := by
  have hlt : ∀ b ∈ B, b.g < W.heap.size := fun b m => h.boxlt m
  obtain ⟨h1, h2, h3, col, hB, hR⟩ := h
  have h0 := hR _ (List.mem_cons_self ..)
  refine ⟨fun k => col k = c, h0.2, fun W' v' l' hk hb hr => ⟨hb, h2, h3, fun k => if k < W.heap.size then col k else c, ?_, ?_⟩⟩
  · intro b m
    have hb := hB b m
    exact ⟨blk_kept hb.1 hk (fun e => h0.1 (by rw [← e]; exact hb.2.2)), hb.2.1, by dsimp only; rw [if_pos (hlt b m)]; exact hb.2.2⟩
  · intro r m
    rcases List.mem_cons.1 m with rfl | m
    · refine ⟨h0.1, Kd.R_mono hr (fun k hk => ?_)⟩
      dsimp only
      rcases hk with hk | hk
      · split
        · exact hk
        · rfl
      · rw [if_neg (by omega)]
    · have hr := hR r (List.mem_cons_of_mem _ m)
      rw [List.map_cons, List.nodup_cons] at h3
      refine ⟨hr.1, Kd.R_kept (Kd.R_mono (Kd.R_bound hr.2) (ok' := fun k => (if k < W.heap.size then col k else c) = r.c ∧ k < W.heap.size) (fun k hk => ⟨by rw [if_pos hk.2.2.1]; exact hk.1, hk.2.2.1⟩)) hk (fun k hk e => ?_) |> fun q => Kd.R_mono q (fun k hk => hk.1)⟩
      have h4 := hk.1
      rw [if_pos hk.2, e] at h4
      exact h3.1 (List.mem_map.2 ⟨r, m, h4.symm⟩)
/-- the first row is cut -/
theorem Env.take {α : Type} {c e n cp m : Nat} {d : Kd α} {A : Option Addr} {l : List α} (h : Env w0 B (⟨c, d, e, .slice A n cp, l⟩ :: R) W) (hm : m ≤ l.length) : Env w0 B (⟨c, d, e, .slice A m cp, l.take m⟩ :: R) W := by
  obtain ⟨h1, h2, h3, col, hB, hR⟩ := h
  refine ⟨h1, h2, h3, col, hB, fun r q => ?_⟩
  rcases List.mem_cons.1 q with rfl | q
  · have h0 := hR _ (List.mem_cons_self ..)
    exact ⟨h0.1, Kd.R_take h0.2 hm⟩
  · exact hR r (List.mem_cons_of_mem _ q)
/-- the first two rows change places -/
theorem Env.swap {a b : It} (h : Env w0 B (a :: b :: R) W) : Env w0 B (b :: a :: R) W :=
  h.rows (fun r m => by
    rcases List.mem_cons.1 m with rfl | m
    · exact List.mem_cons_of_mem _ (List.mem_cons_self ..)
    rcases List.mem_cons.1 m with rfl | m
    · exact List.mem_cons_self ..
    · exact List.mem_cons_of_mem _ (List.mem_cons_of_mem _ m))
    (((List.Perm.swap b a R).map (·.c)).nodup_iff.1 h.2.2.1)
/-- the second row to the front -/
theorem Env.bswap {a b : Bx} (h : Env w0 (a :: b :: B) R W) : Env w0 (b :: a :: B) R W := by
  obtain ⟨h1, h2, h3, col, hB, hR⟩ := h
  refine ⟨h1, ((List.Perm.swap b a B).map (·.g)).nodup_iff.1 h2, h3, col, fun r m => hB r ?_, hR⟩
  rcases List.mem_cons.1 m with rfl | m
  · exact List.mem_cons_of_mem _ (List.mem_cons_self ..)
  rcases List.mem_cons.1 m with rfl | m
  · exact List.mem_cons_self ..
  · exact List.mem_cons_of_mem _ (List.mem_cons_of_mem _ m)
/-- Two rows are given away. -/
theorem Env.lose2 {a b : It} (h : Env w0 B (a :: b :: R) W) : ∃ P0 P1 : Nat → Prop, Kd.R a.d a.e W w0.heap.size P0 a.v a.l ∧ Kd.R b.d b.e W w0.heap.size P1 b.v b.l ∧ (∀ k, P0 k → ¬ P1 k) ∧
    ∀ W' : World, Kept W W' (fun k => P0 k ∨ P1 k) → Below w0.heap.size w0 W' → Env w0 B R W' := by
  obtain ⟨h1, h2, h3, col, hB, hR⟩ := h
  have ha := hR a (List.mem_cons_self ..)
  have hb := hR b (List.mem_cons_of_mem _ (List.mem_cons_self ..))
  rw [List.map_cons, List.map_cons, List.nodup_cons, List.nodup_cons] at h3
  refine ⟨fun k => col k = a.c, fun k => col k = b.c, ha.2, hb.2, fun k p q => h3.1 ?_, fun W' hk hw => ⟨hw, h2, h3.2.2, col, fun x m => ?_, fun r m => ?_⟩⟩
  · rw [← p, q]
    exact List.mem_cons_self ..
  · have hx := hB x m
    refine ⟨blk_kept hx.1 hk (fun e => ?_), hx.2⟩
    rcases e with e | e
    · exact ha.1 (by rw [← e]; exact hx.2.2)
    · exact hb.1 (by rw [← e]; exact hx.2.2)
  · have hr := hR r (List.mem_cons_of_mem _ (List.mem_cons_of_mem _ m))
    refine ⟨hr.1, Kd.R_kept hr.2 hk (fun k hk e => ?_)⟩
    rcases e with e | e
    · exact h3.1 (List.mem_cons_of_mem _ (List.mem_map.2 ⟨r, m, hk.symm.trans e⟩))
    · exact h3.2.1 (List.mem_map.2 ⟨r, m, hk.symm.trans e⟩)
/-- some of the rows, in an order of their own, by their places -/
theorem Env.pick (h : Env w0 B R W) (p : List Nat) (hn : ((p.filterMap (fun i => R[i]?)).map (·.c)).Nodup) : Env w0 B (p.filterMap (fun i => R[i]?)) W :=
  h.rows (fun r m => by
    obtain ⟨i, _, e⟩ := List.mem_filterMap.1 m
    exact List.mem_of_getElem? e) hn
theorem Env.bare (h : Env w0 B R W) : Env w0 B [] W := h.sub (List.Sublist.refl _) (List.nil_sublist _)
theorem Env.bare1 {b : Bx} (h : Env w0 (b :: B) R W) : Env w0 B [] W := h.sub (.cons _ (List.Sublist.refl _)) (List.nil_sublist _)
theorem Env.lose1 {a : It} (h : Env w0 B (a :: R) W) : Env w0 B R W := h.sub (List.Sublist.refl _) (.cons _ (List.Sublist.refl _))
theorem Env.tab (h : Env w0 B R W) (hT : Tab w0) : Tab W := hT.below h.1
theorem Env.came (h : Env w0 B R W) {α : Type} {d : Kd α} {A : Option Addr} {n : Nat} {l : List α} (hC : d.C w0 A n l) : d.C W A n l := Kd.C_below hC h.1
end
end Go.Proofs.YtponmfnegdlppaaDoor.P

end
section
/- What a run notes: a block of two tables of 16 times 17 bools and two numbers. -/
namespace Go.Proofs.YtponmfnegdlppaaDoor.P
open Go.RowKit Go.Proofs.YtponmfnegdlppaaDoorW.PrintWords Go.Proofs.YtponmfnegdlppaaDoorW.PrintLast Go.Proofs.YtponmfnegdlppaaDoorW.PrintMore
set_option linter.unusedVariables false
set_option linter.unusedSimpArgs false

def ncell (bg ch : Nat → Bool) (s c : Int) (i : Nat) : Value := if i < 272 then .bool (bg i) else if i < 544 then .bool (ch (i - 272)) else if i = 544 then .int .i64 s else .int .i64 c
def ncells (bg ch : Nat → Bool) (s c : Int) : Array Value := Array.ofFn (n := 546) fun i => ncell bg ch s c i
def upd (f : Nat → Bool) (i : Nat) : Nat → Bool := fun j => if j = i then true else f j
theorem ncells_get (bg ch : Nat → Bool) (s c : Int) (i : Nat) (h : i < 546) : (ncells bg ch s c)[i]? = some (ncell bg ch s c i) := by
  unfold ncells
  rw [Array.getElem?_ofFn, dif_pos h]
theorem ncells_bg (bg ch : Nat → Bool) (s c : Int) (i : Nat) (h : i < 272) : (ncells bg ch s c)[i]? = some (.bool (bg i)) := by
  rw [ncells_get _ _ _ _ _ (by omega)]
  unfold ncell
  rw [if_pos h]
theorem ncells_ch (bg ch : Nat → Bool) (s c : Int) (i : Nat) (h : i < 272) : (ncells bg ch s c)[272 + i]? = some (.bool (ch i)) := by
  rw [ncells_get _ _ _ _ _ (by omega)]
  unfold ncell
  rw [if_neg (by omega), if_pos (by omega), Nat.add_sub_cancel_left]
theorem ncells_s (bg ch : Nat → Bool) (s c : Int) : (ncells bg ch s c)[544]? = some (.int .i64 s) := by
  rw [ncells_get _ _ _ _ _ (by omega)]
  rfl
theorem ncells_c (bg ch : Nat → Bool) (s c : Int) : (ncells bg ch s c)[545]? = some (.int .i64 c) := by
  rw [ncells_get _ _ _ _ _ (by omega)]
  rfl
theorem ncells_set (bg ch bg' ch' : Nat → Bool) (s c s' c' : Int) (i : Nat) (v : Value) (hv : ncell bg' ch' s' c' i = v) (h : ∀ j, j < 546 → j ≠ i → ncell bg' ch' s' c' j = ncell bg ch s c j) :
    (ncells bg ch s c).setIfInBounds i v = ncells bg' ch' s' c' := by
  apply Array.ext_getElem?
  intro j
  rw [Array.getElem?_setIfInBounds]
  by_cases hj : j < 546
  · rw [ncells_get _ _ _ _ _ hj, ncells_get _ _ _ _ _ hj]
    by_cases e : i = j
    · subst e
      rw [if_pos rfl, if_pos (by unfold ncells; rw [Array.size_ofFn]; exact hj), hv]
    · rw [if_neg e, h j hj (fun q => e q.symm)]
  · have z : ∀ (b d : Nat → Bool) (x y : Int), (ncells b d x y)[j]? = none := fun b d x y => Array.getElem?_eq_none (by unfold ncells; rw [Array.size_ofFn]; omega)
    rw [z, z]
    split
    · rw [if_neg (by unfold ncells; rw [Array.size_ofFn]; omega)]
    · rfl
theorem ncells_set_bg (bg ch : Nat → Bool) (s c : Int) (i : Nat) (h : i < 272) : (ncells bg ch s c).setIfInBounds i (.bool true) = ncells (upd bg i) ch s c := by
  refine ncells_set _ _ _ _ _ _ _ _ _ _ ?_ (fun j hj hne => ?_)
  · unfold ncell upd; rw [if_pos h, if_pos rfl]
  · unfold ncell upd; rw [if_neg hne]
theorem ncells_set_ch (bg ch : Nat → Bool) (s c : Int) (i : Nat) (h : i < 272) : (ncells bg ch s c).setIfInBounds (272 + i) (.bool true) = ncells bg (upd ch i) s c := by
  refine ncells_set _ _ _ _ _ _ _ _ _ _ ?_ (fun j hj hne => ?_)
  · unfold ncell upd; rw [if_neg (by omega), if_pos (by omega), if_pos (by omega)]
  · unfold ncell upd
    by_cases h1 : j < 272
    · rw [if_pos h1, if_pos h1]
    · rw [if_neg h1, if_neg h1]
      by_cases h2 : j < 544
      · rw [if_pos h2, if_pos h2, if_neg (by omega)]
      · rw [if_neg h2, if_neg h2]
theorem ncells_set_s (bg ch : Nat → Bool) (s c s' : Int) : (ncells bg ch s c).setIfInBounds 544 (.int .i64 s') = ncells bg ch s' c := by
  refine ncells_set _ _ _ _ _ _ _ _ _ _ rfl (fun j hj hne => ?_)
  unfold ncell
  rw [if_neg hne]
  rw [if_neg hne]
theorem ncells_set_c (bg ch : Nat → Bool) (s c c' : Int) : (ncells bg ch s c).setIfInBounds 545 (.int .i64 c') = ncells bg ch s c' := by
  refine ncells_set _ _ _ _ _ _ _ _ _ _ rfl (fun j hj hne => ?_)
  unfold ncell
  by_cases h1 : j < 272
  · rw [if_pos h1, if_pos h1]
  · rw [if_neg h1, if_neg h1]
    by_cases h2 : j < 544
    · rw [if_pos h2, if_pos h2]
    · rw [if_neg h2, if_neg h2, if_pos (by omega), if_pos (by omega)]
/-- the rows' colours in other words -/
theorem Env.rename {w0 W : World} {B : List Bx} {R : List It} (h : Env w0 B R W) (f : Nat → Nat) (hf : ∀ a b, f a = f b → a = b) (h0 : f 0 = 0) : Env w0 B (R.map (fun r => { r with c := f r.c })) W := by
  obtain ⟨h1, h2, h3, col, hB, hR⟩ := h
  refine ⟨h1, h2, ?_, fun k => f (col k), fun b m => ⟨(hB b m).1, (hB b m).2.1, by dsimp only; rw [(hB b m).2.2, h0]⟩, fun r m => ?_⟩
  · rw [List.map_map]
    have : (List.map ((fun r : It => r.c) ∘ fun r => { r with c := f r.c }) R) = (R.map (·.c)).map f := by rw [List.map_map]; rfl
    rw [this]
    exact List.Pairwise.map f (fun a b hab e => hab (hf a b e)) h3
  · obtain ⟨r0, m0, rfl⟩ := List.mem_map.1 m
    have q := hR r0 m0
    exact ⟨fun e => q.1 (hf _ _ (by rw [h0]; exact e)), Kd.R_mono q.2 (fun k hk => by dsimp only; rw [hk])⟩
/-- two colours change places -/
def swapc (a b : Nat) (x : Nat) : Nat := if x = a then b else if x = b then a else x
theorem swapc_inj (a b : Nat) : ∀ x y, swapc a b x = swapc a b y → x = y := by
  intro x y h
  unfold swapc at h
  repeat' split at h
  all_goals omega
end Go.Proofs.YtponmfnegdlppaaDoor.P

end
section
/- The ledger's answers in plain lists. -/
namespace Go.Proofs.YtponmfnegdlppaaDoor.P
open Go.RowKit Go.Proofs.YtponmfnegdlppaaDoorW.PrintWords Go.Proofs.YtponmfnegdlppaaDoorW.PrintLast Go.Proofs.YtponmfnegdlppaaDoorW.PrintMore
set_option linter.unusedVariables false

/-- may a task's state be? -/
def goodP (t : Int) (held : Bool) (s : S38) : Bool :=
  !(decide (s.f0 < 0)) && (!(decide (4 ≤ s.f0)) && ((held || !(decide (s.f0 = 2))) && (!(decide (s.f2 < 0)) && (!(decide (t < s.f2)) && (decide (s.f1 = s.f2 + (if s.f0 = 0 then 0 else 1)) && (!(decide (s.f2 = t)) || decide (s.f0 = 0)))))))
def scanP (t : Int) (held : Bool) : List S38 → Int → Option Int
  | [], f => some f
  | s :: l, f => if goodP t held s = true then scanP t held l (if s.f2 = t then f + 1 else f) else none
def finP (fl : Bool) (f : Int) : Int := if 1 < f ∨ fl ≠ decide (f = 1) then 190 else 0
def scan1 (t : Int) (l1 : List S38) (fl : Bool) (f : Int) : Int := match scanP t true l1 f with
  | none => 190
  | some f => finP fl f
def scan0 (t : Int) (l0 l1 : List S38) (fl : Bool) (f : Int) : Int := match scanP t false l0 f with
  | none => 190
  | some f => scan1 t l1 fl f
def checkP (t : Int) (l0 l1 : List S38) (fl : Bool) : Int :=
  if t < 1 then 190 else if 16 < t then 190 else if 256 < l0.length then 190 else if l1.length < 1 then 190 else if 65535 < l1.length then 190 else scan0 t l0 l1 fl 0
theorem rd38 (l : List S38) (i : Nat) (h : i < l.length) : rd_T38 l (i : Int) = l[i] := by
  unfold rd_T38
  rw [Int.toNat_natCast, List.getD_eq_getElem?_getD, List.getElem?_eq_getElem h]
  rfl
theorem drop38 (l : List S38) (i : Nat) (h : i < l.length) : l.drop i = rd_T38 l (i : Int) :: l.drop (i + 1) := by
  rw [rd38 l i h]
  exact List.drop_eq_getElem_cons h
end Go.Proofs.YtponmfnegdlppaaDoor.P

end
