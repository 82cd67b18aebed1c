/- A buffer that gathers records: contracts by hand; its records are a row of the call's own. -/
import Derived.Test.YtljahmnilmjlpaaHSort
import Derived.Test.YtljahmnilmjlpaaPf10
import Derived.Outline
namespace Go.Proofs.Ytljahmnilmjlpaa.P
open Go.RowKit Go.Proofs.YtljahmnilmjlpaaW.PrintWords Go.Proofs.YtljahmnilmjlpaaW.PrintLast Go.Proofs.YtljahmnilmjlpaaW.PrintMore Go.Proofs.Ytljahmnilmjlpaa.Hand
set_option linter.unusedVariables false
set_option linter.unusedSimpArgs false

def BUF (w0 W : World) (g : Nat) (P : Nat → Prop) (l : List S23) (cost most : Int) : Prop :=
  ∃ u, W.heap[g]? = some (.cells #[u, .int .i64 cost, .int .i64 most] 54 (0, 0)) ∧ w0.heap.size ≤ g ∧ Kd.R k23 23 W w0.heap.size P u l
theorem BUF.lt {w0 W : World} {g : Nat} {P : Nat → Prop} {l : List S23} {cost most : Int} (h : BUF w0 W g P l cost most) : g < W.heap.size := by
  obtain ⟨u, hb, _⟩ := h
  exact blk_lt hb
theorem BUF.step {w0 W W2 : World} {g : Nat} {P P2 : Nat → Prop} {l : List S23} {cost most : Int} (h : BUF w0 W g P l cost most) (hb : W2.heap[g]? = W.heap[g]?) (hP : ∀ k, P k → k < W.heap.size → W2.heap[k]? = W.heap[k]? ∧ P2 k) : BUF w0 W2 g P2 l cost most := by
  obtain ⟨u, h1, h2, h3⟩ := h
  refine ⟨u, hb.trans h1, h2, Kd.R_mono (ok := fun k => P k ∧ k < W.heap.size) ?_ (fun k hk => (hP k hk.1 hk.2).2)⟩
  exact Kd.R_step (Kd.R_mono (Kd.R_bound h3) (fun k hk => ⟨hk.1, hk.2.2.1⟩)) (fun k ho hlt => (hP k ho.1 ho.2).1)
theorem BUF.below {w0 W W2 : World} {g : Nat} {P : Nat → Prop} {l : List S23} {cost most : Int} (h : BUF w0 W g P l cost most) (hb : Below W.heap.size W W2) : BUF w0 W2 g P l cost most :=
  h.step (hb.block _ h.lt) (fun k hp hlt => ⟨hb.block k hlt, hp⟩)
theorem BUF.drew {w0 W : World} {g : Nat} {P : Nat → Prop} {l : List S23} {cost most : Int} (h : BUF w0 W g P l cost most) : BUF w0 W.drew g P l cost most := h.below (below_drew1 (Below.refl _ _))

theorem BNew (w0 w : World) (m : Int) (P : Nat → Prop) (h1 : 256 ≤ m) (h2 : m ≤ 16777216) (hB : Below w0.heap.size w0 w) : Calls Try.prog 20 #[.int .i64 m] w fun e w' => ∃ g, e = .returned (.tuple #[.pointer (some ⟨g, 0, none⟩), .int .i64 0]) ∧
    BUF w0 w' g P [] 0 m ∧ Below w.heap.size w w' := by
  have hs := hB.size
  have G := Aside0.mk (show BUF w0 (w.alloc (.cells #[.slice none 0 0, .int .i64 0, .int .i64 m] 54)) w.heap.size P [] 0 m ∧ Below w.heap.size w (w.alloc (.cells #[.slice none 0 0, .int .i64 0, .int .i64 m] 54)) from
    ⟨⟨.slice none 0 0, heap_alloc_new w _, hs, Kd.R_nil _ _ _ _ _⟩, below_alloc (Below.refl _ _) _⟩)
  have d1 : decide (m < 256) = false := decide_eq_false (by omega)
  have d2 : decide (16777216 < m) = false := decide_eq_false (by omega)
  clear hB hs h1 h2
  go_enter Try.func20, Try.ntmps20
  go_wp2_with fail
  go_ret2
  exact ⟨_, rfl, G.out⟩
theorem BCount (w0 w : World) (g : Nat) (P : Nat → Prop) (l : List S23) (cost most : Int) (h : BUF w0 w g P l cost most) : Calls Try.prog 33 #[.pointer (some ⟨g, 0, none⟩)] w fun e w' => e = .returned (.int .i64 l.length) ∧ Below w.heap.size w w' := by
  obtain ⟨u, h1, h2, h3⟩ := h
  obtain ⟨A, c, rfl, hc, hC⟩ := Kd.R_reads h3
  have hx : w.cell? ⟨g, 0, none⟩ = some (.slice A l.length c) := (blk_cell h1 0).trans rfl
  clear h1 h2 h3 hC hc
  go_enter Try.func33, Try.ntmps33
  go_wp2_with fail
  go_ret
  exact ⟨rfl, by first | exact Below.refl _ _ | exact pw_below_drewN (Below.refl _ _) _⟩
theorem BLen (w0 w : World) (g : Nat) (P : Nat → Prop) (l : List S23) (cost most : Int) (h : BUF w0 w g P l cost most) : Calls Try.prog 26 #[.pointer (some ⟨g, 0, none⟩)] w fun e w' => e = .returned (.int .i64 l.length) ∧ Below w.heap.size w w' := by
  have H := Aside0.mk h
  clear h
  go_enter Try.func26, Try.ntmps26
  go_wp2_with fail
  refine (BCount w0 _ g P l cost most (by first | exact H.out | exact H.out.drew)).mono ?_
  rintro e w2 ⟨rfl, hB⟩
  have HB := Aside0.mk hB
  clear hB
  go_wp2_with fail
  go_ret
  exact ⟨rfl, HB.out⟩
theorem BUsed (w0 w : World) (g : Nat) (P : Nat → Prop) (l : List S23) (cost most : Int) (h : BUF w0 w g P l cost most) : Calls Try.prog 28 #[.pointer (some ⟨g, 0, none⟩)] w fun e w' => e = .returned (.int .i64 cost) ∧ Below w.heap.size w w' := by
  obtain ⟨u, h1, h2, h3⟩ := h
  have hx : w.cell? ⟨g, 1, none⟩ = some (.int .i64 cost) := (blk_cell h1 1).trans rfl
  clear h1 h2 h3
  go_enter Try.func28, Try.ntmps28
  go_wp2_with fail
  go_ret
  exact ⟨rfl, by first | exact Below.refl _ _ | exact pw_below_drewN (Below.refl _ _) _⟩
theorem cost_eq (x : S23) (h : x.f1.size + x.f2.size ≤ 281474976710656) : sortbuf_Cost.f x.f0 x.f1 x.f2 = some ((x.f1.size + x.f2.size + 32 : Nat) : Int) := by
  unfold sortbuf_Cost.f
  have : wrap64 ((wrap64 ((x.f1.size : Int) + (x.f2.size : Int))) + 32) = ((x.f1.size + x.f2.size + 32 : Nat) : Int) := by unfold wrap64; omega
  rw [this]
def cst (x : S23) : Nat := x.f1.size + x.f2.size + 32
theorem BUF.setCost {w0 w W : World} {g : Nat} {P : Nat → Prop} {l : List S23} {cost most : Int} (h : BUF w0 W g P l cost most) (hP : ¬ P g) (hk : Kept w W (fun k => k = g ∨ P k)) (hB : Below w0.heap.size w0 W) (c : Int) :
    BUF w0 (W.setCell ⟨g, 1, none⟩ (.int .i64 c)) g P l c most ∧ Kept w (W.setCell ⟨g, 1, none⟩ (.int .i64 c)) (fun k => k = g ∨ P k) ∧ Below w0.heap.size w0 (W.setCell ⟨g, 1, none⟩ (.int .i64 c)) := by
  obtain ⟨u, h1, h2, h3⟩ := h
  exact ⟨⟨u, by simpa using blk_set h1 1 (.int .i64 c), h2, Kd.R_kept h3 ((Kept.refl W (fun k => k = g)).setCell (p := ⟨g, 1, none⟩) (.inl rfl) _) (fun k hp e => hP (by subst e; exact hp))⟩, hk.setCell (p := ⟨g, 1, none⟩) (.inl (.inl rfl)) _, hB.setCell h2 _⟩
theorem BUF.setRow {w0 w W : World} {g : Nat} {P : Nat → Prop} {l : List S23} {cost most : Int} {u v : Value} (h1 : W.heap[g]? = some (.cells #[u, .int .i64 cost, .int .i64 most] 54 (0, 0))) (h2 : w0.heap.size ≤ g) (hP : ¬ P g) (hk : Kept w W (fun k => k = g ∨ P k)) (hB : Below w0.heap.size w0 W) (ho : Kd.R k23 23 W w0.heap.size P v l) :
    BUF w0 (W.setCell ⟨g, 0, none⟩ v) g P l cost most ∧ Kept w (W.setCell ⟨g, 0, none⟩ v) (fun k => k = g ∨ P k) ∧ Below w0.heap.size w0 (W.setCell ⟨g, 0, none⟩ v) :=
  ⟨⟨v, by simpa using blk_set h1 0 v, h2, Kd.R_kept ho ((Kept.refl W (fun k => k = g)).setCell (p := ⟨g, 0, none⟩) (.inl rfl) _) (fun k hp e => hP (by subst e; exact hp))⟩, hk.setCell (p := ⟨g, 0, none⟩) (.inl (.inl rfl)) _, hB.setCell h2 _⟩
theorem BUF.cells {w0 W : World} {g : Nat} {P : Nat → Prop} {l : List S23} {cost most : Int} (h : BUF w0 W g P l cost most) : W.cell? ⟨g, 1, none⟩ = some (.int .i64 cost) ∧ W.cell? ⟨g, 2, none⟩ = some (.int .i64 most) ∧ W.frozen? ⟨g, 1, none⟩ = false := by
  obtain ⟨u, h1, h2, h3⟩ := h
  exact ⟨(blk_cell h1 1).trans rfl, (blk_cell h1 2).trans rfl, blk_frozen h1 1⟩
theorem app23 {ops : Array Oper} {o : Oper} {a : Act} {Q : Exit → Act → World → Prop} {Kc : Act → World → Prop} {w0 W : World} (base : Nat) (hw : Region.wanted o (yielded ops a.tmps) = true) (s x : Operand)
    (ho : o.op = .call { callee := .builtin .append, args := #[s, x], argTypes := #[27, 27] }) (v : Value) (xs : List S23) (p : S23) (ok : Nat → Prop) (hs : a.eval s = v) (hx : a.eval x = .slice (some ⟨W.heap.size, 0, none⟩) 1 1) (hfresh : ∀ k, W.heap.size ≤ k → ok k)
    (HO : Kd.R k23 23 W base ok v xs) (HB : Below base w0 W) (hbase : base ≤ W.heap.size) (hl : xs.length < 3518437208883)
    (h : ∀ v1 w1, Kd.R k23 23 w1 base ok v1 (xs ++ [p]) → Below base w0 w1 → W.drew.grownBy w1 v.ownBlock → Kc (a.put o.dst v1) w1) :
    if Region.wanted o (yielded ops a.tmps) = true then Oper.wp Try.prog o a (W.alloc (.cells #[.int .i64 p.f0, .string p.f1, .string p.f2] 23)).drew Kc Q else Kc (a.put o.dst undef) (W.alloc (.cells #[.int .i64 p.f0, .string p.f1, .string p.f2] 23)).drew :=
  Kd.R_append_step (P := Try.prog) (Q := Q) (Kc := Kc) (W := W.drew) k23 (w0 := w0) base hw s x 27 23 (.agg #[(.int .i64 0), (.string ⟨#[]⟩), (.string ⟨#[]⟩)]) 40 ho Try.underlying27 info23 rfl (by decide) (by omega) v xs p [.int .i64 p.f0, .string p.f1, .string p.f2] ok (fun _ => False) hs hx (k23_mkM _ _ _ p) (fun _ h => h.elim) hfresh (Kd.R_drew HO) (below_drew1 HB) hbase (by omega)
    (fun v1 w1 h1 h2 h3 _ => h v1 w1 h1 h2 h3)
set_option maxHeartbeats 4000000 in
theorem BGAdd (w0 w : World) (g : Nat) (P : Nat → Prop) (l : List S23) (cost most : Int) (x : S23) (hx : x.f1.size + x.f2.size ≤ 281474976710656) (hB : Below w0.heap.size w0 w) (h : BUF w0 w g P l cost most) (hPg : ¬ P g) (hfresh : ∀ k, w.heap.size ≤ k → P k) (hl : l.length < 3518437208883)
    (hc : -9223372036854775808 ≤ cost + cst x ∧ cost + cst x ≤ 9223372036854775807) : Calls Try.prog 34 #[.pointer (some ⟨g, 0, none⟩), .agg #[.int .i64 x.f0, .string x.f1, .string x.f2]] w fun e w' => e = .returned (.tuple #[]) ∧
    BUF w0 w' g P (l ++ [x]) (cost + cst x) most ∧ Kept w w' (fun k => k = g ∨ P k) ∧ Below w0.heap.size w0 w' := by
  obtain ⟨u, h1, h2, h3⟩ := h
  have HP := Aside0.mk h3.1
  have HP2 := Aside0.mk (fun k hk => ((Kd.R_bound h3).1 k hk).2.2.1)
  obtain ⟨A, c, rfl, hcp, hC⟩ := Kd.R_reads h3
  have H1 := Aside0.mk h1
  have H2 := Aside0.mk h2
  have H3 := Aside0.mk h3
  have HB := Aside0.mk hB
  have HPg := Aside0.mk hPg
  have HF := Aside0.mk hfresh
  have HL := Aside0.mk hl
  have HC := Aside0.mk (show IntKind.i64.wrap (cost + (cst x : Int)) = cost + (cst x : Int) by rw [IntKind.wrap_i64]; omega)
  have hcs := Aside0.mk (cost_eq x hx)
  clear h1 h2 h3 hC hcp hB hPg hfresh hl hc hx
  go_enter Try.func34, Try.ntmps34
  go_wp2_with fail
  have hgx := heap_alloc_new w (.cells #[.int .i64 x.f0, .string x.f1, .string x.f2] 23)
  have ba := below_alloc (Below.refl w.heap.size w) (.cells #[.int .i64 x.f0, .string x.f1, .string x.f2] 23)
  generalize w.alloc (.cells #[.int .i64 x.f0, .string x.f1, .string x.f2] 23) = W1 at hgx ba ⊢
  have H1a := (ba.block _ (blk_lt H1.out)).trans H1.out
  have hx0 : W1.cell? ⟨g, 0, none⟩ = some (.slice A l.length c) := (blk_cell H1a 0).trans rfl
  have hf := blk_frozen H1a 0
  have hx0b : (W1.alloc (.cells #[.int .i64 x.f0, .string x.f1, .string x.f2] 23)).cell? ⟨g, 0, none⟩ = some (.slice A l.length c) := (blk_cell (((below_alloc (Below.refl W1.heap.size W1) (.cells #[.int .i64 x.f0, .string x.f1, .string x.f2] 23)).block _ (blk_lt H1a)).trans H1a) 0).trans rfl
  have hy0 : W1.cell? ⟨w.heap.size, 0, none⟩ = some (.int .i64 x.f0) := (blk_cell hgx 0).trans rfl
  have hy1 : W1.cell? ⟨w.heap.size, 1, none⟩ = some (.string x.f1) := (blk_cell hgx 1).trans rfl
  have hy2 : W1.cell? ⟨w.heap.size, 2, none⟩ = some (.string x.f2) := (blk_cell hgx 2).trans rfl
  have HGX := Aside0.mk hgx
  have H1A := Aside0.mk (show W1.drew.heap[g]? = _ from H1a)
  have H3A := Aside0.mk (Kd.R_below H3.out ba)
  have HBA := Aside0.mk (below_step HB.out ba)
  have HFA := Aside0.mk (fun k (hk : W1.heap.size ≤ k) => HF.out k (Nat.le_trans ba.size hk))
  have HKA := Aside0.mk (show Kept w W1.drew (fun k => k = g ∨ P k) from Kept.of_below ba _)
  have HGP := Aside0.mk (show P w.heap.size from HF.out _ (Nat.le_refl _))
  have HGX2 := Aside0.mk (show w.heap.size ≠ g from fun e => HPg.out (by rw [← e]; exact HF.out _ (Nat.le_refl _)))
  clear H1a H3 HB HF H1
  have GA := Aside0.mk (fun (v1 : Value) (w1 : World) (ho : Kd.R k23 23 w1 w0.heap.size P v1 (l ++ [x])) (hb : Below w0.heap.size w0 w1) (hg : W1.drew.grownBy w1 (Value.slice A l.length c).ownBlock) =>
    (show (w1.heap[g]? = some (.cells #[.slice A l.length c, .int .i64 cost, .int .i64 most] 54 (0, 0)) ∧ w1.heap[w.heap.size]? = some (.cells #[.int .i64 x.f0, .string x.f1, .string x.f2] 23 (0, 0)) ∧ Kept w w1 (fun k => k = g ∨ P k) ∧ Kd.R k23 23 w1 w0.heap.size P v1 (l ++ [x]) ∧ Below w0.heap.size w0 w1) from
      ⟨blk_grown H1A.out hg (fun e => HPg.out (HP.out _ e.symm)), blk_grown (show W1.drew.heap[w.heap.size]? = _ from HGX.out) hg (fun e => Nat.lt_irrefl _ (HP2.out _ e.symm)), Kept.of_grown hg HKA.out (fun k e => .inl (.inr (HP.out k e))), ho, hb⟩))
  clear hgx ba H1A HKA
  generalize w.heap.size = gx at hy0 hy1 hy2 HGX HGP HGX2 GA ⊢
  go_region_law ((refine app23 (w0 := w0) w0.heap.size (by rfl) (.tmp 8) (.tmp 10) (by rfl) (.slice A l.length c) l x P (by rfl) (by rfl) HFA.out H3A.out HBA.out HBA.out.size HL.out ?_; intro v1 w1 ho hb hg; have GB := Aside0.mk (GA.out v1 w1 ho hb hg); obtain ⟨A', c', rfl⟩ := Kd.R_slice ho; have hx1 : w1.cell? ⟨g, 0, none⟩ = some (.slice A l.length c) := (blk_cell GB.out.1 0).trans rfl; have hf1 := blk_frozen GB.out.1 0; clear ho hb hg GA))
  all_goals go_wp2_with fail
  all_goals
    clear hy0 hy1 hy2 hx0 hx0b hf hx1 hf1
    have hset := BUF.setRow GB.out.1 H2.out HPg.out GB.out.2.2.1 GB.out.2.2.2.2 GB.out.2.2.2.1
    have hne : gx ≠ g := HGX2.out
    have hgx2 : (w1.setCell ⟨g, 0, none⟩ (.slice A' (l ++ [x]).length c')).heap[gx]? = some (.cells #[.int .i64 x.f0, .string x.f1, .string x.f2] 23 (0, 0)) := blk_kept GB.out.2.1 ((Kept.refl w1 (fun k => k = g)).setCell (p := ⟨g, 0, none⟩) (.inl rfl) _) hne
    rw [List.length_append, List.length_singleton] at hset hgx2
    generalize w1.setCell ⟨g, 0, none⟩ (.slice A' (l.length + 1) c') = W2 at hset hgx2 ⊢
    obtain ⟨hc1, _, hc2⟩ := hset.1.cells
    have hy0 : W2.cell? ⟨gx, 0, none⟩ = some (.int .i64 x.f0) := (blk_cell hgx2 0).trans rfl
    have hy1 : W2.cell? ⟨gx, 1, none⟩ = some (.string x.f1) := (blk_cell hgx2 1).trans rfl
    have hy2 : W2.cell? ⟨gx, 2, none⟩ = some (.string x.f2) := (blk_cell hgx2 2).trans rfl
    have HS := Aside0.mk hset
    have HX2 := Aside0.mk hgx2
    have GC := Aside0.mk (fun (w2 : World) (hb : Below W2.drew.heap.size W2.drew w2) => (show (BUF w0 w2 g P (l ++ [x]) cost most ∧ Kept w w2 (fun k => k = g ∨ P k) ∧ Below w0.heap.size w0 w2) from
      ⟨hset.1.drew.below hb, (hset.2.1.drew).below hb, below_step (below_drew1 hset.2.2) hb⟩))
    clear hset hgx2 GB
    go_region_with ((go_at_call 10; refine (sortbuf_Cost.calls _ _ _ _ _ hcs.out).mono ?_; rintro e w2 ⟨rfl, hB2⟩; have GD := Aside0.mk (GC.out w2 hB2); obtain ⟨hd1, _, hd2⟩ := GD.out.1.cells; clear hB2))
    all_goals go_wp2_with fail
    all_goals go_end0
    all_goals
      have q := BUF.setCost GD.out.1 HPg.out GD.out.2.1 GD.out.2.2 (cost + (cst x : Int))
      have e : IntKind.i64.wrap (cost + ((x.f1.size : Int) + (x.f2.size : Int) + 32)) = cost + (cst x : Int) := by rw [show ((x.f1.size : Int) + (x.f2.size : Int) + 32) = ((cst x : Nat) : Int) from by unfold cst; omega]; exact HC.out
      exact ⟨rfl, by rw [e]; exact q⟩
end Go.Proofs.Ytljahmnilmjlpaa.P
