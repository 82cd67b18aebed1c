/- A buffer's Add and Take: contracts by hand. -/
import Derived.Test.YtljahmnilmjlpaaHBuf
namespace Go.Proofs.Ytljahmnilmjlpaa.P
open Go.RowKit Go.Proofs.YtljahmnilmjlpaaW.PrintWords Go.Proofs.YtljahmnilmjlpaaW.PrintLast Go.Proofs.YtljahmnilmjlpaaW.PrintMore Go.Proofs.Ytljahmnilmjlpaa.Hand
set_option linter.unusedVariables false
set_option linter.unusedSimpArgs false

/-- a buffer, with the box of the record that is handed in -/
def XB (w0 : World) (g gx : Nat) (P : Nat → Prop) (l : List S23) (cost most : Int) (x : S23) (W : World) : Prop := BUF w0 W g P l cost most ∧ W.heap[gx]? = some (.cells #[.int .i64 x.f0, .string x.f1, .string x.f2] 23 (0, 0))
theorem XB.below {w0 W W2 : World} {g gx : Nat} {P : Nat → Prop} {l : List S23} {cost most : Int} {x : S23} (h : XB w0 g gx P l cost most x W) (hb : Below W.heap.size W W2) : XB w0 g gx P l cost most x W2 := ⟨h.1.below hb, (hb.block _ (blk_lt h.2)).trans h.2⟩
theorem XB.drew {w0 W : World} {g gx : Nat} {P : Nat → Prop} {l : List S23} {cost most : Int} {x : S23} (h : XB w0 g gx P l cost most x W) : XB w0 g gx P l cost most x W.drew := h.below (below_drew1 (Below.refl _ _))
theorem XB.cells {w0 W : World} {g gx : Nat} {P : Nat → Prop} {l : List S23} {cost most : Int} {x : S23} (h : XB w0 g gx P l cost most x W) : (W.cell? ⟨g, 1, none⟩ = some (.int .i64 cost) ∧ W.cell? ⟨g, 2, none⟩ = some (.int .i64 most)) ∧
    W.cell? ⟨gx, 0, none⟩ = some (.int .i64 x.f0) ∧ W.cell? ⟨gx, 1, none⟩ = some (.string x.f1) ∧ W.cell? ⟨gx, 2, none⟩ = some (.string x.f2) := by
  obtain ⟨a, b, _⟩ := h.1.cells
  exact ⟨⟨a, b⟩, (blk_cell h.2 0).trans rfl, (blk_cell h.2 1).trans rfl, (blk_cell h.2 2).trans rfl⟩
theorem XB.count {w0 W : World} {g gx : Nat} {P : Nat → Prop} {l : List S23} {cost most : Int} {x : S23} {n : Nat} (hn : n = l.length) (h : XB w0 g gx P l cost most x W) : Calls Try.prog 33 #[.pointer (some ⟨g, 0, none⟩)] W fun e w' => e = .returned (.int .i64 n) ∧ Below W.heap.size W w' := by
  subst hn
  exact BCount w0 W g P l cost most h.1
theorem XB.count0 {w0 W : World} {g gx : Nat} {P : Nat → Prop} {l : List S23} {cost most : Int} {x : S23} (hn : l.length = 0) (h : XB w0 g gx P l cost most x W) : Calls Try.prog 33 #[.pointer (some ⟨g, 0, none⟩)] W fun e w' => e = .returned (.int .i64 0) ∧ Below W.heap.size W w' := by
  have := BCount w0 W g P l cost most h.1
  rw [hn] at this
  exact this
set_option maxHeartbeats 4000000 in
theorem BAddFull (w0 w : World) (g : Nat) (P : Nat → Prop) (l : List S23) (cost most : Int) (x : S23) (hx : x.f1.size + x.f2.size ≤ 281474976710656) (h : BUF w0 w g P l cost most)
    (hl : 0 < l.length) (hc : cost + cst x ≤ 9223372036854775807 ∧ most < cost + cst x ∧ -9223372036854775808 ≤ cost) : Calls Try.prog 22 #[.pointer (some ⟨g, 0, none⟩), .agg #[.int .i64 x.f0, .string x.f1, .string x.f2]] w fun e w' => e = .returned (.int .i64 62) ∧ Below w.heap.size w w' := by
  have H := Aside0.mk h
  have hcs := Aside0.mk (cost_eq x hx)
  obtain ⟨n, hn⟩ : ∃ n, n = l.length := ⟨_, rfl⟩
  have HN := Aside0.mk hn
  have hd1 : decide (0 < (n : Int)) = true := decide_eq_true (by omega)
  have hd1b : decide (0 < n) = true := decide_eq_true (by omega)
  clear hn
  have hd2 : decide (most < IntKind.i64.wrap (cost + ((x.f1.size : Int) + (x.f2.size : Int) + 32))) = true := decide_eq_true (by rw [IntKind.wrap_i64]; unfold cst at hc; omega)
  have HX := Aside0.mk hx
  clear hl hc
  clear h hx
  go_enter Try.func22, Try.ntmps22
  go_wp2_with fail
  have hgx := heap_alloc_new w (.cells #[.int .i64 x.f0, .string x.f1, .string x.f2] 23)
  have ba := below_alloc (Below.refl w.heap.size w) (.cells #[.int .i64 x.f0, .string x.f1, .string x.f2] 23)
  generalize w.alloc (.cells #[.int .i64 x.f0, .string x.f1, .string x.f2] 23) = W1 at hgx ba ⊢
  have HM2 := Aside0.mk (XB.drew (w0 := w0) ⟨H.out.below ba, hgx⟩)
  have HBB := Aside0.mk (below_drew1 ba)
  clear hgx ba H
  generalize w.heap.size = gx at HM2 ⊢
  obtain ⟨⟨f1, f2⟩, f3, f4, f5⟩ := HM2.out.cells
  go_region_held3 (fun w' => XB w0 g gx P l cost most x w' ∧ ((w'.cell? ⟨g, 1, none⟩ = some (.int .i64 cost) ∧ w'.cell? ⟨g, 2, none⟩ = some (.int .i64 most)) ∧ w'.cell? ⟨gx, 0, none⟩ = some (.int .i64 x.f0) ∧ w'.cell? ⟨gx, 1, none⟩ = some (.string x.f1) ∧ w'.cell? ⟨gx, 2, none⟩ = some (.string x.f2))) (first | exact ⟨HM2.out, HM2.out.cells⟩ | go_keep) ((first | (go_at_call 33; with_reducible refine (XB.count HN.out HM2.out).mono ?_; rintro e w2 ⟨rfl, hB2⟩; replace HBB := Aside0.mk (below_step HBB.out hB2); replace HM2 := Aside0.mk (HM2.out.below hB2); clear hB2) | (go_at_call 10; with_reducible refine (sortbuf_Cost.calls _ _ _ _ _ hcs.out).mono ?_; rintro e w2 ⟨rfl, hB2⟩; replace HBB := Aside0.mk (below_step HBB.out hB2); replace HM2 := Aside0.mk (HM2.out.below hB2); clear hB2)))
  go_wp2_with fail
  go_ret
  exact ⟨rfl, HBB.out⟩
set_option maxHeartbeats 4000000 in
theorem BAddMore (w0 w : World) (g : Nat) (P : Nat → Prop) (l : List S23) (cost most : Int) (x : S23) (hx : x.f1.size + x.f2.size ≤ 281474976710656) (hB : Below w0.heap.size w0 w) (h : BUF w0 w g P l cost most) (hPg : ¬ P g) (hfresh : ∀ k, w.heap.size ≤ k → P k) (hl : l.length < 3518437208883)
    (hc : -9223372036854775808 ≤ cost + cst x ∧ cost + cst x ≤ 9223372036854775807) (hn0 : 0 < l.length) (hm : cost + cst x ≤ most) : Calls Try.prog 22 #[.pointer (some ⟨g, 0, none⟩), .agg #[.int .i64 x.f0, .string x.f1, .string x.f2]] w fun e w' => e = .returned (.int .i64 0) ∧
    BUF w0 w' g P (l ++ [x]) (cost + cst x) most ∧ Kept w w' (fun k => k = g ∨ P k) ∧ Below w0.heap.size w0 w' := by
  have H := Aside0.mk h
  have hcs := Aside0.mk (cost_eq x hx)
  obtain ⟨n, hn⟩ : ∃ n, n = l.length := ⟨_, rfl⟩
  have HN := Aside0.mk hn
  have hd1 : decide (0 < (n : Int)) = true := decide_eq_true (by omega)
  have hd1b : decide (0 < n) = true := decide_eq_true (by omega)
  have hd2 : decide (most < IntKind.i64.wrap (cost + ((x.f1.size : Int) + (x.f2.size : Int) + 32))) = false := decide_eq_false (by rw [IntKind.wrap_i64]; unfold cst at hc hm; omega)
  clear hn
  have HB0 := Aside0.mk hB
  have HPg := Aside0.mk hPg
  have HFr := Aside0.mk hfresh
  have HL := Aside0.mk hl
  have HCB := Aside0.mk hc
  have HX := Aside0.mk hx
  clear hB hPg hfresh hl hc hn0 hm
  clear h hx
  go_enter Try.func22, Try.ntmps22
  go_wp2_with fail
  have hgx := heap_alloc_new w (.cells #[.int .i64 x.f0, .string x.f1, .string x.f2] 23)
  have ba := below_alloc (Below.refl w.heap.size w) (.cells #[.int .i64 x.f0, .string x.f1, .string x.f2] 23)
  generalize w.alloc (.cells #[.int .i64 x.f0, .string x.f1, .string x.f2] 23) = W1 at hgx ba ⊢
  have HM2 := Aside0.mk (XB.drew (w0 := w0) ⟨H.out.below ba, hgx⟩)
  have HBB := Aside0.mk (below_drew1 ba)
  clear hgx ba H
  generalize w.heap.size = gx at HM2 ⊢
  obtain ⟨⟨f1, f2⟩, f3, f4, f5⟩ := HM2.out.cells
  go_region_held3 (fun w' => XB w0 g gx P l cost most x w' ∧ ((w'.cell? ⟨g, 1, none⟩ = some (.int .i64 cost) ∧ w'.cell? ⟨g, 2, none⟩ = some (.int .i64 most)) ∧ w'.cell? ⟨gx, 0, none⟩ = some (.int .i64 x.f0) ∧ w'.cell? ⟨gx, 1, none⟩ = some (.string x.f1) ∧ w'.cell? ⟨gx, 2, none⟩ = some (.string x.f2))) (first | exact ⟨HM2.out, HM2.out.cells⟩ | go_keep) ((first | (go_at_call 33; with_reducible refine (XB.count HN.out HM2.out).mono ?_; rintro e w2 ⟨rfl, hB2⟩; replace HBB := Aside0.mk (below_step HBB.out hB2); replace HM2 := Aside0.mk (HM2.out.below hB2); clear hB2) | (go_at_call 10; with_reducible refine (sortbuf_Cost.calls _ _ _ _ _ hcs.out).mono ?_; rintro e w2 ⟨rfl, hB2⟩; replace HBB := Aside0.mk (below_step HBB.out hB2); replace HM2 := Aside0.mk (HM2.out.below hB2); clear hB2)))
  have GK := Aside0.mk (fun (W : World) (hW : Below w.heap.size w W) (hM : BUF w0 W g P l cost most) => (BGAdd w0 W g P l cost most x HX.out (below_step HB0.out hW) hM HPg.out (fun k hk => HFr.out k (Nat.le_trans hW.size hk)) HL.out HCB.out).mono (R' := fun e w' => e = .returned (.tuple #[]) ∧ BUF w0 w' g P (l ++ [x]) (cost + cst x) most ∧ Kept w w' (fun k => k = g ∨ P k) ∧ Below w0.heap.size w0 w')
    (fun e w' q => ⟨q.1, q.2.1, (Kept.of_below hW _).then_ q.2.2.1 (fun k h => .inl h), q.2.2.2⟩))
  clear f1 f2 f3 f4 f5
  go_wp2_with fail
  have HM3 := Aside0.mk HM2.out.drew
  have HBB3 := Aside0.mk (below_drew1 HBB.out)
  obtain ⟨⟨f1, f2⟩, f3, f4, f5⟩ := HM2.out.cells
  go_region_with ((go_at_call 34; refine (GK.out _ HBB3.out HM3.out.1).mono ?_; rintro e w3 ⟨rfl, hq⟩; have HQ := Aside0.mk hq; clear hq))
  go_wp2_with fail
  go_ret
  exact ⟨rfl, HQ.out⟩
set_option maxHeartbeats 4000000 in
theorem BAddOne (w0 w : World) (g : Nat) (P : Nat → Prop) (l : List S23) (cost most : Int) (x : S23) (hx : x.f1.size + x.f2.size ≤ 281474976710656) (hB : Below w0.heap.size w0 w) (h : BUF w0 w g P l cost most) (hPg : ¬ P g) (hfresh : ∀ k, w.heap.size ≤ k → P k) (hl : l.length < 3518437208883)
    (hc : -9223372036854775808 ≤ cost + cst x ∧ cost + cst x ≤ 9223372036854775807) (hn0 : l.length = 0) : Calls Try.prog 22 #[.pointer (some ⟨g, 0, none⟩), .agg #[.int .i64 x.f0, .string x.f1, .string x.f2]] w fun e w' => e = .returned (.int .i64 0) ∧
    BUF w0 w' g P (l ++ [x]) (cost + cst x) most ∧ Kept w w' (fun k => k = g ∨ P k) ∧ Below w0.heap.size w0 w' := by
  have H := Aside0.mk h
  have hcs := Aside0.mk (cost_eq x hx)
  have HN := Aside0.mk hn0
  have HB0 := Aside0.mk hB
  have HPg := Aside0.mk hPg
  have HFr := Aside0.mk hfresh
  have HL := Aside0.mk hl
  have HCB := Aside0.mk hc
  have HX := Aside0.mk hx
  clear hB hPg hfresh hl hc hn0
  clear h hx
  go_enter Try.func22, Try.ntmps22
  go_wp2_with fail
  have hgx := heap_alloc_new w (.cells #[.int .i64 x.f0, .string x.f1, .string x.f2] 23)
  have ba := below_alloc (Below.refl w.heap.size w) (.cells #[.int .i64 x.f0, .string x.f1, .string x.f2] 23)
  generalize w.alloc (.cells #[.int .i64 x.f0, .string x.f1, .string x.f2] 23) = W1 at hgx ba ⊢
  have HM2 := Aside0.mk (XB.drew (w0 := w0) ⟨H.out.below ba, hgx⟩)
  have HBB := Aside0.mk (below_drew1 ba)
  clear hgx ba H
  generalize w.heap.size = gx at HM2 ⊢
  obtain ⟨⟨f1, f2⟩, f3, f4, f5⟩ := HM2.out.cells
  refine wp_region_any (by kernel_rfl) ?_
  change wpAny _ _ _ _ _ _ _ (World.drew _)
  refine wpAny_take (i := 0) (v := (.pointer (some ⟨g, 0, none⟩))) rfl (by kernel_rfl) (by kernel_rfl) (by kernel_rfl) (fun _ _ _ h => h) (Or.inl ⟨by rfl, by (intro w; go_simp)⟩) ?_
  change wpAny _ _ _ _ _ _ (Act.put _ (some 7) _) _
  simp only [Act.put, List.setIfInBounds_toArray, List.set_cons_zero, List.set_cons_succ]
  refine wpAny_take (i := 1) (v := (.pointer (some ⟨g, 0, none⟩))) rfl (by kernel_rfl) (by kernel_rfl) (by kernel_rfl) (fun _ _ _ h => h) (Or.inl ⟨by rfl, by (intro w; go_simp)⟩) ?_
  change wpAny _ _ _ _ _ _ (Act.put _ (some 8) _) _
  simp only [Act.put, List.setIfInBounds_toArray, List.set_cons_zero, List.set_cons_succ]
  refine wpAny_take (i := 2) (v := (.pointer (some ⟨g, 0, none⟩))) rfl (by kernel_rfl) (by kernel_rfl) (by kernel_rfl) (fun _ _ _ h => h) (Or.inl ⟨by rfl, by (intro w; go_simp)⟩) ?_
  change wpAny _ _ _ _ _ _ (Act.put _ (some 9) _) _
  simp only [Act.put, List.setIfInBounds_toArray, List.set_cons_zero, List.set_cons_succ]
  refine wpAny_ready (rs := [3]) (by kernel_rfl) (by simp) ?_
  refine AllReady.cons rfl (fun K hK => ?_) AllReady.nil
  go_simp
  refine (XB.count0 HN.out HM2.out).mono ?_
  rintro e w2 ⟨rfl, hB2⟩
  replace HBB := Aside0.mk (below_step HBB.out hB2)
  replace HM2 := Aside0.mk (HM2.out.below hB2)
  clear hB2
  go_wp2_with fail
  refine wpAny_take (i := 4) (v := (.bool false)) rfl (by kernel_rfl) (by kernel_rfl) (by kernel_rfl) (fun _ _ _ h => h) (Or.inl ⟨by rfl, by (intro w; go_simp)⟩) ?_
  change wpAny _ _ _ _ _ _ (Act.put _ (some 11) _) _
  simp only [Act.put, List.setIfInBounds_toArray, List.set_cons_zero, List.set_cons_succ]
  refine wpAny_take (i := 5) (v := (.bool false)) rfl (by kernel_rfl) (by kernel_rfl) (by kernel_rfl) (fun _ _ _ h => h) (Or.inl ⟨by rfl, by (intro w; go_simp)⟩) ?_
  change wpAny _ _ _ _ _ _ (Act.put _ (some 12) _) _
  simp only [Act.put, List.setIfInBounds_toArray, List.set_cons_zero, List.set_cons_succ]
  refine wpAny_take (i := 6) (v := undef) rfl (by kernel_rfl) (by kernel_rfl) (by kernel_rfl) (fun _ _ _ h => h) (Or.inr ⟨by kernel_rfl, rfl⟩) ?_
  change wpAny _ _ _ _ _ _ (Act.put _ (some 13) _) _
  simp only [Act.put, List.setIfInBounds_toArray, List.set_cons_zero, List.set_cons_succ]
  refine wpAny_take (i := 7) (v := undef) rfl (by kernel_rfl) (by kernel_rfl) (by kernel_rfl) (fun _ _ _ h => h) (Or.inr ⟨by kernel_rfl, rfl⟩) ?_
  change wpAny _ _ _ _ _ _ (Act.put _ (some 14) _) _
  simp only [Act.put, List.setIfInBounds_toArray, List.set_cons_zero, List.set_cons_succ]
  refine wpAny_take (i := 8) (v := undef) rfl (by kernel_rfl) (by kernel_rfl) (by kernel_rfl) (fun _ _ _ h => h) (Or.inr ⟨by kernel_rfl, rfl⟩) ?_
  change wpAny _ _ _ _ _ _ (Act.put _ (some 15) _) _
  simp only [Act.put, List.setIfInBounds_toArray, List.set_cons_zero, List.set_cons_succ]
  refine wpAny_take (i := 9) (v := undef) rfl (by kernel_rfl) (by kernel_rfl) (by kernel_rfl) (fun _ _ _ h => h) (Or.inr ⟨by kernel_rfl, rfl⟩) ?_
  change wpAny _ _ _ _ _ _ (Act.put _ (some 16) _) _
  simp only [Act.put, List.setIfInBounds_toArray, List.set_cons_zero, List.set_cons_succ]
  refine wpAny_take (i := 10) (v := undef) rfl (by kernel_rfl) (by kernel_rfl) (by kernel_rfl) (fun _ _ _ h => h) (Or.inr ⟨by kernel_rfl, rfl⟩) ?_
  change wpAny _ _ _ _ _ _ (Act.put _ (some 17) _) _
  simp only [Act.put, List.setIfInBounds_toArray, List.set_cons_zero, List.set_cons_succ]
  refine wpAny_take (i := 11) (v := undef) rfl (by kernel_rfl) (by kernel_rfl) (by kernel_rfl) (fun _ _ _ h => h) (Or.inr ⟨by kernel_rfl, rfl⟩) ?_
  change wpAny _ _ _ _ _ _ (Act.put _ (some 18) _) _
  simp only [Act.put, List.setIfInBounds_toArray, List.set_cons_zero, List.set_cons_succ]
  refine wpAny_take (i := 14) (v := undef) rfl (by kernel_rfl) (by kernel_rfl) (by kernel_rfl) (fun _ _ _ h => h) (Or.inr ⟨by kernel_rfl, rfl⟩) ?_
  change wpAny _ _ _ _ _ _ (Act.put _ (some 21) _) _
  simp only [Act.put, List.setIfInBounds_toArray, List.set_cons_zero, List.set_cons_succ]
  refine wpAny_take (i := 15) (v := undef) rfl (by kernel_rfl) (by kernel_rfl) (by kernel_rfl) (fun _ _ _ h => h) (Or.inr ⟨by kernel_rfl, rfl⟩) ?_
  change wpAny _ _ _ _ _ _ (Act.put _ (some 22) _) _
  simp only [Act.put, List.setIfInBounds_toArray, List.set_cons_zero, List.set_cons_succ]
  refine wpAny_take (i := 16) (v := undef) rfl (by kernel_rfl) (by kernel_rfl) (by kernel_rfl) (fun _ _ _ h => h) (Or.inr ⟨by kernel_rfl, rfl⟩) ?_
  change wpAny _ _ _ _ _ _ (Act.put _ (some 23) _) _
  simp only [Act.put, List.setIfInBounds_toArray, List.set_cons_zero, List.set_cons_succ]
  refine wpAny_take (i := 17) (v := undef) rfl (by kernel_rfl) (by kernel_rfl) (by kernel_rfl) (fun _ _ _ h => h) (Or.inr ⟨by kernel_rfl, rfl⟩) ?_
  change wpAny _ _ _ _ _ _ (Act.put _ (some 24) _) _
  simp only [Act.put, List.setIfInBounds_toArray, List.set_cons_zero, List.set_cons_succ]
  refine wpAny_ready (rs := [12]) (by kernel_rfl) (by simp) ?_
  refine AllReady.cons rfl (fun K hK => ?_) AllReady.nil
  go_simp
  refine hK _ _ ?_
  clear hK K
  refine wpAny_take (i := 13) (v := undef) rfl (by kernel_rfl) (by kernel_rfl) (by kernel_rfl) (fun _ _ _ h => h) (Or.inr ⟨by kernel_rfl, rfl⟩) ?_
  change wpAny _ _ _ _ _ _ (Act.put _ (some 20) _) _
  simp only [Act.put, List.setIfInBounds_toArray, List.set_cons_zero, List.set_cons_succ]
  refine wpAny_take (i := 18) (v := undef) rfl (by kernel_rfl) (by kernel_rfl) (by kernel_rfl) (fun _ _ _ h => h) (Or.inr ⟨by kernel_rfl, rfl⟩) ?_
  change wpAny _ _ _ _ _ _ (Act.put _ (some 25) _) _
  simp only [Act.put, List.setIfInBounds_toArray, List.set_cons_zero, List.set_cons_succ]
  refine wpAny_take (i := 19) (v := (.bool false)) rfl (by kernel_rfl) (by kernel_rfl) (by kernel_rfl) (fun _ _ _ h => h) (Or.inl ⟨by rfl, by (intro w; go_simp)⟩) ?_
  change wpAny _ _ _ _ _ _ (Act.put _ (some 26) _) _
  simp only [Act.put, List.setIfInBounds_toArray, List.set_cons_zero, List.set_cons_succ]
  refine wpAny_done (by kernel_rfl) ?_ _
  have GK := Aside0.mk (fun (W : World) (hW : Below w.heap.size w W) (hM : BUF w0 W g P l cost most) => (BGAdd w0 W g P l cost most x HX.out (below_step HB0.out hW) hM HPg.out (fun k hk => HFr.out k (Nat.le_trans hW.size hk)) HL.out HCB.out).mono (R' := fun e w' => e = .returned (.tuple #[]) ∧ BUF w0 w' g P (l ++ [x]) (cost + cst x) most ∧ Kept w w' (fun k => k = g ∨ P k) ∧ Below w0.heap.size w0 w')
    (fun e w' q => ⟨q.1, q.2.1, (Kept.of_below hW _).then_ q.2.2.1 (fun k h => .inl h), q.2.2.2⟩))
  clear f1 f2 f3 f4 f5
  go_wp2_with fail
  have HM3 := Aside0.mk HM2.out.drew
  have HBB3 := Aside0.mk (below_drew1 HBB.out)
  obtain ⟨⟨f1, f2⟩, f3, f4, f5⟩ := HM2.out.cells
  go_region_with ((go_at_call 34; refine (GK.out _ HBB3.out HM3.out.1).mono ?_; rintro e w3 ⟨rfl, hq⟩; have HQ := Aside0.mk hq; clear hq))
  go_wp2_with fail
  go_ret
  exact ⟨rfl, HQ.out⟩
end Go.Proofs.Ytljahmnilmjlpaa.P
