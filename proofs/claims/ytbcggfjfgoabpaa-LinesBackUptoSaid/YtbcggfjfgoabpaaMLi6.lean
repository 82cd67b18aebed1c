/- Several texts laid together (wip/tools/merge2.py): HOf, Pf27, Pf8, Texts, LineLaws. -/
import Derived.Test.YtbcggfjfgoabpaaMLi2
import Derived.Test.YtbcggfjfgoabpaaMLi1
import Derived.Test.YtbcggfjfgoabpaaMLi4
section
/- lines.Of: contract by hand. -/
namespace Go.Proofs.Ytbcggfjfgoabpaa.P
open Go.RowKit Go.Shelf Go.Proofs.YtbcggfjfgoabpaaW.PrintWords Go.Proofs.YtbcggfjfgoabpaaW.PrintLast
attribute [local go_sem] Oper.semAt_some
set_option linter.unusedVariables false
set_option linter.unusedSimpArgs false

/-- the lines that begin within -/
def inP (t : ByteArray) (a b : Int) (pre : List (Ln t)) : List Value := ((pre.map Subtype.val).filter (within a b)).map (fun p => Value.string (lnT t p))
theorem inP_length {t : ByteArray} {a b : Int} (pre : List (Ln t)) : (inP t a b pre).length ≤ pre.length := by
  unfold inP
  rw [List.length_map]
  exact Nat.le_trans (List.length_filter_le _ _) (Nat.le_of_eq (List.length_map ..))
theorem inP_hit {t : ByteArray} {a b : Int} (pre : List (Ln t)) (x : Ln t) (h1 : a ≤ (x.1.1 : Int)) (h2 : (x.1.1 : Int) < b) : inP t a b (pre ++ [x]) = inP t a b pre ++ [.string (lnT t x.1)] := by
  have hw : within a b x.1 = true := by unfold within; rw [decide_eq_true h1, decide_eq_true h2]; rfl
  simp [inP, hw]
theorem inP_miss {t : ByteArray} {a b : Int} (pre : List (Ln t)) (x : Ln t) (h : ¬ (a ≤ (x.1.1 : Int) ∧ (x.1.1 : Int) < b)) : inP t a b (pre ++ [x]) = inP t a b pre := by
  have hw : within a b x.1 = false := by
    unfold within
    by_cases h1 : a ≤ (x.1.1 : Int)
    · rw [decide_eq_true h1, decide_eq_false (fun h2 => h ⟨h1, h2⟩)]; rfl
    · rw [decide_eq_false h1]; rfl
  simp [inP, hw]
/-- the piece's box -/
def PBox (W : World) (B : Nat) (a b : Int) : Prop := W.heap[B]? = some (.cells #[.int .i64 a, .int .i64 b] 33 (0, 0))
theorem PBox.cells {W : World} {B : Nat} {a b : Int} (h : PBox W B a b) : W.cell? ⟨B, 0, none⟩ = some (.int .i64 a) ∧ W.cell? ⟨B, 1, none⟩ = some (.int .i64 b) := by
  constructor <;> simp [World.cell?, show W.heap[B]? = _ from h]
theorem pbox_own {β : Type} (B : Nat) (a b : Int) : Own (fun (_ : β) W => PBox W B a b) := by
  intro s X Y row hs hg hr
  refine (hg.block B (Array.getElem?_eq_some_iff.1 hs).1 (fun e => ?_)).trans hs
  obtain ⟨o, ho, hc⟩ := hr B e.symm
  rw [show X.heap[B]? = _ from hs] at ho
  cases ho
  cases hc
set_option maxRecDepth 100000 in
set_option maxHeartbeats 4000000 in
theorem Of_in (t : ByteArray) (a b : Int) (w : World) (ht : t.size ≤ 4194304) :
    CallsIn Fence.wide 9 Try.prog 14 #[.string t, .agg #[.int .i64 a, .int .i64 b]] w fun e W' => ∃ v, e = .returned (.tuple #[v, .int .i64 (ofL t a b).2]) ∧ W'.ownsRow w.heap.size 9 1 v (ofL t a b).1.length ((ofL t a b).1.map Value.string) ∧ Below w.heap.size w W' := by
  obtain ⟨i0, hi, hz0, hz1, hz2⟩ := info_parts info9p
  have hro : Fence.wide.round = none := rfl
  have hN : (lns t).length ≤ t.size + 1 := lnsD_length t t.size 0 0
  have ht2 : (t.size : Int) ≤ 4194304 := by omega
  by_cases hbad : a < 0 ∨ a > b ∨ b > (t.size : Int)
  · have hof : ofL t a b = ([], 3) := by unfold ofL; rw [if_neg (by omega), if_pos hbad]
    rw [hof]
    refine callsIn_of_wp_marks Try.func14 rfl trivial ?_ hro
    simp only [Try.ntmps14, List.size_toArray, List.length_cons, List.length_nil, Nat.reduceAdd, Nat.reduceSub, Array.replicate_succ, Array.replicate_zero, List.push_toArray, List.append_toArray, List.nil_append, List.cons_append]
    have hB0 : Below w.heap.size w ((w.alloc (.cells #[.string t] 9)).alloc (.cells #[.int .i64 a, .int .i64 b] 33)) := ((Below.refl _ w).alloc (Nat.le_refl _) _).alloc (by simp) _
    rcases (show a < 0 ∨ (0 ≤ a ∧ b < a) ∨ (0 ≤ a ∧ a ≤ b ∧ (t.size : Int) < b) by omega) with h | ⟨h, h2⟩ | ⟨h, h2, h3⟩
    · clear hbad hof
      gi_wp2
      exact ⟨_, results_tmp2 rfl _ _ _, _, rfl, World.ownsRow_nil _ _ _ _, hB0⟩
    · clear hbad hof
      gi_wp2
      exact ⟨_, results_tmp2 rfl _ _ _, _, rfl, World.ownsRow_nil _ _ _ _, hB0⟩
    · clear hbad hof
      gi_wp2
      exact ⟨_, results_tmp2 rfl _ _ _, _, rfl, World.ownsRow_nil _ _ _ _, hB0⟩
  · have hof : ofL t a b = (((lns t).filter (within a b)).map (lnT t), 0) := by unfold ofL; rw [if_neg (by omega), if_neg hbad]
    rw [hof]
    have k1 : 0 ≤ a := by omega
    have k2 : a ≤ b := by omega
    have k3 : b ≤ (t.size : Int) := by omega
    clear hbad hof
    refine callsIn_of_wp_marks Try.func14 rfl trivial ?_ hro
    simp only [Try.ntmps14, List.size_toArray, List.length_cons, List.length_nil, Nat.reduceAdd, Nat.reduceSub, Array.replicate_succ, Array.replicate_zero, List.push_toArray, List.append_toArray, List.nil_append, List.cons_append]
    gi_wp2_with (refine ⟨trivial, ?_⟩; gi_at_call 29; refine (ends_in Fence.wide 8 trivial hro _ _).mono ?_; rintro e w' ⟨rfl, rfl⟩)
    have b1 := (((Boxed.new w 9 (.string t)).alloc (.cells #[.int .i64 a, .int .i64 b] 33)).alloc (.cells #[.slice none 0 0] 34)).alloc (.cells #[.string t] 9)
    have bp : PBox ((w.alloc (.cells #[.string t] 9)).alloc (.cells #[.int .i64 a, .int .i64 b] 33)) (w.heap.size + 1) a b := by
      have := World.alloc_heap_new (w.alloc (.cells #[.string t] 9)) (.cells #[.int .i64 a, .int .i64 b] 33)
      rwa [World.size_alloc] at this
    have bp2 : PBox ((((w.alloc (.cells #[.string t] 9)).alloc (.cells #[.int .i64 a, .int .i64 b] 33)).alloc (.cells #[.slice none 0 0] 34)).alloc (.cells #[.string t] 9)) (w.heap.size + 1) a b :=
      (Below.heap_alloc _ _ _ (by simp)).trans ((Below.heap_alloc _ _ _ (by simp)).trans bp)
    have b2 := (Boxed.new ((w.alloc (.cells #[.string t] 9)).alloc (.cells #[.int .i64 a, .int .i64 b] 33)) 34 (.slice none 0 0)).alloc (.cells #[.string t] 9)
    have b3 := Boxed.new (((w.alloc (.cells #[.string t] 9)).alloc (.cells #[.int .i64 a, .int .i64 b] 33)).alloc (.cells #[.slice none 0 0] 34)) 9 (.string t)
    have hB0 : Below w.heap.size w ((((w.alloc (.cells #[.string t] 9)).alloc (.cells #[.int .i64 a, .int .i64 b] 33)).alloc (.cells #[.slice none 0 0] 34)).alloc (.cells #[.string t] 9)) := ((((Below.refl _ w).alloc (Nat.le_refl _) _).alloc (by simp) _).alloc (by simp; omega) _).alloc (by simp; omega) _
    rw [World.size_alloc, World.size_alloc] at b2
    rw [World.size_alloc, World.size_alloc, World.size_alloc] at b3
    have hsz : ((((w.alloc (.cells #[.string t] 9)).alloc (.cells #[.int .i64 a, .int .i64 b] 33)).alloc (.cells #[.slice none 0 0] 34)).alloc (.cells #[.string t] 9)).heap.size = w.heap.size + 1 + 1 + 1 + 1 := by simp
    clear bp
    generalize (((w.alloc (.cells #[.string t] 9)).alloc (.cells #[.int .i64 a, .int .i64 b] 33)).alloc (.cells #[.slice none 0 0] 34)).alloc (.cells #[.string t] 9) = W0 at b1 bp2 b2 b3 hB0 hsz ⊢
    refine wpIn_rangeFunc_ownG hro (by decide) (gf := 31) (lb := #[.pointer (some ⟨w.heap.size + 1 + 1 + 1, 0, none⟩)]) rfl trivial (enters_of Try.func31 (by kernel_rfl) rfl)
      (ends_stops Fence.wide 8 trivial hro (by decide) (w.heap.size + 1 + 1 + 1) t (by omega) W0 b3) EK.t EK.b (Below.refl _ _) (fun _ => rfl)
      (fun pre W => (Held (w.heap.size + 1 + 1) (w.heap.size + 1 + 1 + 1 + 1) (inP t a b pre) W ∧ Boxed W w.heap.size 9 (.string t) ∧ PBox W (w.heap.size + 1) a b) ∧ Below w.heap.size w W ∧ w.heap.size + 1 + 1 + 1 + 1 ≤ W.heap.size)
      (fun _ _ _ => False)
      (OwnFrom.and (OwnFrom.and ((held_own _ _ _).from _) (OwnFrom.and ((boxed_own _ _ _).from _) ((pbox_own _ _ _).from _))) (OwnFrom.and (ownFrom_below (Nat.le_refl _) (by omega)) ((size_own _).from _)))
      (fun _ _ _ _ _ hs _ _ => hs)
      ⟨⟨⟨_, b2, World.ownsRow_nil _ _ _ _⟩, b1, bp2⟩, hB0, Nat.le_of_eq hsz.symm⟩
      (fun x => { tmps := #[.string t, .agg #[.int .i64 a, .int .i64 b], .pointer (some ⟨w.heap.size, 0, none⟩), .pointer (some ⟨w.heap.size + 1, 0, none⟩), .slice none 0 0, .int .i64 0, .pointer (some ⟨w.heap.size + 1 + 1, 0, none⟩), .int .i64 (x.1.1 : Int), .int .i64 (x.1.2 : Int), .bool (decide (4194304 < (t.size : Int))), .string t, .int .i64 (t.size : Int), .bool (decide (4194304 < (t.size : Int))), .bool (decide (a < 0) || decide (b < a) || decide ((t.size : Int) < b)), .pointer (some ⟨w.heap.size + 1, 0, none⟩), .int .i64 a, .bool (decide (a < 0)), .bool (decide (a < 0)), .pointer (some ⟨w.heap.size + 1, 0, none⟩), .int .i64 a, .pointer (some ⟨w.heap.size + 1, 1, none⟩), .int .i64 b, .bool (decide (b < a)), .bool (decide (a < 0) || decide (b < a)), .bool (decide (a < 0) || decide (b < a)), .pointer (some ⟨w.heap.size + 1, 1, none⟩), .int .i64 b, .string t, .int .i64 (t.size : Int), .bool (decide ((t.size : Int) < b)), .bool (decide (a < 0) || decide (b < a) || decide ((t.size : Int) < b)), .string t, .func (.func 31) #[] #[.pointer (some ⟨w.heap.size + 1 + 1 + 1, 0, none⟩)], .int .i64 (x.1.1 : Int), .int .i64 (x.1.2 : Int), undef, undef, undef, undef, undef, undef, undef, undef, undef, undef, undef, undef, undef, undef, undef, undef, undef, undef], defers := [] }) ?assign ?body ?done ?stop
    case assign =>
      intro l x W K hK
      dsimp only [lnV]
      gi_wp2
      exact hK
    case body =>
      rintro l pre x W ⟨⟨⟨v, hv, hrow⟩, hbt, hpb⟩, hB, hsW⟩ hlt
      obtain ⟨xs, hxs⟩ : ∃ xs, xs = inP t a b pre := ⟨_, rfl⟩
      rw [← hxs] at hrow
      have HXE := Aside0.mk hxs.symm
      have HXS := Aside0.mk (show xs.length + 1 ≤ 4194305 by have := inP_length (a := a) (b := b) pre; rw [hxs]; omega)
      clear hxs
      have HV := Aside0.mk hv
      have HR := Aside0.mk hrow
      have HBT := Aside0.mk hbt
      have HPB := Aside0.mk hpb
      have HB := Aside0.mk hB
      have hx2 := x.2
      have hhit := inP_hit (a := a) (b := b) pre x
      have hmiss := inP_miss (a := a) (b := b) pre x
      obtain ⟨⟨x1, x2⟩, hxx⟩ := x
      dsimp only at hx2 hhit hmiss ⊢
      obtain ⟨hx0, hx2⟩ := hx2
      obtain ⟨hp1, hp2⟩ := hpb.cells
      have hc1 := hbt.cell
      have hc2 := hv.cell
      have hc3 := (hv.alloc (.cells #[.string (t.extract x1 x2)] 9)).cell
      have i1 : (x1 : Int) ≤ (x2 : Int) := by omega
      have i2 : (x2 : Int) ≤ (t.size : Int) := by omega
      have HSZ0 := Aside0.mk (show w.heap.size + 1 + 1 + 1 + 1 ≤ W.heap.size from hsW)
      have HSZ := Aside0.mk (show w.heap.size + 1 + 1 + 1 + 1 ≤ (W.alloc (.cells #[.string (t.extract x1 x2)] 9)).heap.size by have := HSZ0.out; simp; omega)
      have HHIT := Aside0.mk hhit
      have HMISS := Aside0.mk hmiss
      clear hv hrow hbt hB hpb hsW hhit hmiss hlt k1 k2 k3 hN ht ht2 hsz b1 bp2 b2 b3 hB0
      rcases (show (x1 : Int) < a ∨ (a ≤ (x1 : Int) ∧ b ≤ (x1 : Int)) ∨ (a ≤ (x1 : Int) ∧ (x1 : Int) < b) by omega) with g1 | ⟨g1, g2⟩ | ⟨g1, g2⟩
      · gi_wp2
        refine ⟨KeepsFrom.refl _ _, EK.refl _ _ _, ⟨⟨_, HV.out, ?_⟩, HBT.out, HPB.out⟩, HB.out, HSZ0.out⟩
        rw [HMISS.out (by omega), HXE.out]
        exact HR.out
      · gi_wp2
        refine ⟨KeepsFrom.refl _ _, EK.refl _ _ _, ⟨⟨_, HV.out, ?_⟩, HBT.out, HPB.out⟩, HB.out, HSZ0.out⟩
        rw [HMISS.out (by omega), HXE.out]
        exact HR.out
      · gi_wp2
        refine wpIn_region_any (by kernel_rfl) (any_round (by kernel_rfl) (fun ⟨_, _, h⟩ => h) _ _ _ _ ?_)
        change wpAny _ _ _ _ _ _ _ (World.drew _)
        refine wpAny_take (i := 2) (v := .int .i64 (x1 : Int)) rfl (by kernel_rfl) (by kernel_rfl) (by kernel_rfl) (fun _ _ _ h => h) (Or.inl ⟨by rfl, by (intro w; go_simp)⟩) ?_
        change wpAny _ _ _ _ _ _ (Act.put _ (some 47) _) _
        try simp only [Act.put, List.setIfInBounds_toArray, List.set_cons_zero, List.set_cons_succ]
        refine wpAny_take (i := 3) (v := .int .i64 (x2 : Int)) rfl (by kernel_rfl) (by kernel_rfl) (by kernel_rfl) (fun _ _ _ h => h) (Or.inl ⟨by rfl, by (intro w; go_simp)⟩) ?_
        change wpAny _ _ _ _ _ _ (Act.put _ (some 48) _) _
        try simp only [Act.put, List.setIfInBounds_toArray, List.set_cons_zero, List.set_cons_succ]
        refine wpAny_ready (rs := [0, 1]) (by kernel_rfl) (by simp) ?_
        refine AllReady.cons rfl (fun K hK => ?_) (AllReady.cons rfl (fun K hK => ?_) AllReady.nil)
        · go_simp
          refine hK _ _ ?_
          clear hK K
          try simp only [Act.put, List.setIfInBounds_toArray, List.set_cons_zero, List.set_cons_succ]
          refine wpAny_ready (rs := [1]) (by kernel_rfl) (by simp) ?_
          refine AllReady.cons rfl (fun K hK => ?_) AllReady.nil
          go_simp
          refine hK _ _ ?_
          clear hK K
          try simp only [Act.put, List.setIfInBounds_toArray, List.set_cons_zero, List.set_cons_succ]
          refine wpAny_take (i := 4) (v := .string (t.extract x1 x2)) rfl (by kernel_rfl) (by kernel_rfl) (by kernel_rfl) (fun _ _ _ h => h) (Or.inl ⟨by rfl, by (intro w; go_simp)⟩) ?_
          change wpAny _ _ _ _ _ _ (Act.put _ (some 49) _) _
          try simp only [Act.put, List.setIfInBounds_toArray, List.set_cons_zero, List.set_cons_succ]
          refine wpAny_ready (rs := [5]) (by kernel_rfl) (by simp) ?_
          refine AllReady.cons rfl (fun K hK => ?_) AllReady.nil
          go_simp
          refine hK _ _ ?_
          clear hK K
          try simp only [Act.put, List.setIfInBounds_toArray, List.set_cons_zero, List.set_cons_succ]
          refine wpAny_ready (rs := [6]) (by kernel_rfl) (by simp) ?_
          refine AllReady.cons rfl (fun K hK => ?_) AllReady.nil
          rw [if_pos (by rfl)]
          refine wp_append_own _ (.tmp 45) (.tmp 50) 34 rfl (w.heap.size + 1 + 1 + 1 + 1) 9 i0 (.string ⟨#[]⟩) 1 16 Try.underlying34 hi hz0 hz1 hz2 rfl (by decide) v xs.length xs rfl (HR.out.alloc _) ⟨W.heap.size, 0, none⟩ 1 1 [.string (t.extract x1 x2)] rfl rfl (cell_one_new _ _ _) (by simp [Value.oneCell']) (by have := HXS.out; simp only [maxLen]; omega) (by have := HXS.out; omega) (HSZ.out) ?_
          intro v' w1 hown' hgrow _
          obtain ⟨g', cap', rfl⟩ := ownsRow_succ hown'
          have HA := Aside0.mk (boxed_append (n₀ := w.heap.size) HV.out HR.out (by omega) (by omega) (by have := HSZ0.out; omega) hown' ⟨hgrow.os, hgrow.tape, hgrow.output, hgrow.size, hgrow.block⟩)
          have hd1 := HA.out.1.cell
          have hd2 := HA.out.1.frozen
          clear hown' hgrow
          refine hK _ _ ?_
          clear hK K
          change wpAny _ _ _ _ _ _ (Act.put _ (some 51) _) _
          try simp only [Act.put, List.setIfInBounds_toArray, List.set_cons_zero, List.set_cons_succ]
          refine wpAny_ready (rs := [7]) (by kernel_rfl) (by simp) ?_
          refine AllReady.cons rfl (fun K hK => ?_) AllReady.nil
          go_simp
          refine hK _ _ ?_
          clear hK K
          refine wpAny_done (by kernel_rfl) ?_ _
          obtain ⟨a1, a2, a3, a4, a5, a6⟩ := HA.out
          refine ⟨a4.from _, ⟨fun hb => (a6 _ (by omega) (by omega)).trans hb, a4.walks⟩, ⟨⟨_, a2, ?_⟩, (a6 _ (by omega) (by omega)).trans HBT.out, (a6 _ (by omega) (by omega)).trans HPB.out⟩, HB.out.trans a5, Nat.le_trans HSZ0.out a4.size⟩
          rw [HHIT.out g1 g2, HXE.out]
          simpa [lnT] using a3
        · go_simp
          refine hK _ _ ?_
          clear hK K
          try simp only [Act.put, List.setIfInBounds_toArray, List.set_cons_zero, List.set_cons_succ]
          refine wpAny_take (i := 4) (v := .string (t.extract x1 x2)) rfl (by kernel_rfl) (by kernel_rfl) (by kernel_rfl) (fun _ _ _ h => h) (Or.inl ⟨by rfl, by (intro w; go_simp)⟩) ?_
          change wpAny _ _ _ _ _ _ (Act.put _ (some 49) _) _
          try simp only [Act.put, List.setIfInBounds_toArray, List.set_cons_zero, List.set_cons_succ]
          refine wpAny_ready (rs := [0, 5]) (by kernel_rfl) (by simp) ?_
          refine AllReady.cons rfl (fun K hK => ?_) (AllReady.cons rfl (fun K hK => ?_) AllReady.nil)
          · go_simp
            refine hK _ _ ?_
            clear hK K
            try simp only [Act.put, List.setIfInBounds_toArray, List.set_cons_zero, List.set_cons_succ]
            refine wpAny_ready (rs := [5]) (by kernel_rfl) (by simp) ?_
            refine AllReady.cons rfl (fun K hK => ?_) AllReady.nil
            go_simp
            refine hK _ _ ?_
            clear hK K
            try simp only [Act.put, List.setIfInBounds_toArray, List.set_cons_zero, List.set_cons_succ]
            refine wpAny_ready (rs := [6]) (by kernel_rfl) (by simp) ?_
            refine AllReady.cons rfl (fun K hK => ?_) AllReady.nil
            rw [if_pos (by rfl)]
            refine wp_append_own _ (.tmp 45) (.tmp 50) 34 rfl (w.heap.size + 1 + 1 + 1 + 1) 9 i0 (.string ⟨#[]⟩) 1 16 Try.underlying34 hi hz0 hz1 hz2 rfl (by decide) v xs.length xs rfl (HR.out.alloc _) ⟨W.heap.size, 0, none⟩ 1 1 [.string (t.extract x1 x2)] rfl rfl (cell_one_new _ _ _) (by simp [Value.oneCell']) (by have := HXS.out; simp only [maxLen]; omega) (by have := HXS.out; omega) (HSZ.out) ?_
            intro v' w1 hown' hgrow _
            obtain ⟨g', cap', rfl⟩ := ownsRow_succ hown'
            have HA := Aside0.mk (boxed_append (n₀ := w.heap.size) HV.out HR.out (by omega) (by omega) (by have := HSZ0.out; omega) hown' ⟨hgrow.os, hgrow.tape, hgrow.output, hgrow.size, hgrow.block⟩)
            have hd1 := HA.out.1.cell
            have hd2 := HA.out.1.frozen
            clear hown' hgrow
            refine hK _ _ ?_
            clear hK K
            change wpAny _ _ _ _ _ _ (Act.put _ (some 51) _) _
            try simp only [Act.put, List.setIfInBounds_toArray, List.set_cons_zero, List.set_cons_succ]
            refine wpAny_ready (rs := [7]) (by kernel_rfl) (by simp) ?_
            refine AllReady.cons rfl (fun K hK => ?_) AllReady.nil
            go_simp
            refine hK _ _ ?_
            clear hK K
            refine wpAny_done (by kernel_rfl) ?_ _
            obtain ⟨a1, a2, a3, a4, a5, a6⟩ := HA.out
            refine ⟨a4.from _, ⟨fun hb => (a6 _ (by omega) (by omega)).trans hb, a4.walks⟩, ⟨⟨_, a2, ?_⟩, (a6 _ (by omega) (by omega)).trans HBT.out, (a6 _ (by omega) (by omega)).trans HPB.out⟩, HB.out.trans a5, Nat.le_trans HSZ0.out a4.size⟩
            rw [HHIT.out g1 g2, HXE.out]
            simpa [lnT] using a3
          · go_simp
            refine hK _ _ ?_
            clear hK K
            try simp only [Act.put, List.setIfInBounds_toArray, List.set_cons_zero, List.set_cons_succ]
            refine wpAny_ready (rs := [0]) (by kernel_rfl) (by simp) ?_
            refine AllReady.cons rfl (fun K hK => ?_) AllReady.nil
            go_simp
            refine hK _ _ ?_
            clear hK K
            try simp only [Act.put, List.setIfInBounds_toArray, List.set_cons_zero, List.set_cons_succ]
            refine wpAny_ready (rs := [6]) (by kernel_rfl) (by simp) ?_
            refine AllReady.cons rfl (fun K hK => ?_) AllReady.nil
            rw [if_pos (by rfl)]
            refine wp_append_own _ (.tmp 45) (.tmp 50) 34 rfl (w.heap.size + 1 + 1 + 1 + 1) 9 i0 (.string ⟨#[]⟩) 1 16 Try.underlying34 hi hz0 hz1 hz2 rfl (by decide) v xs.length xs rfl (HR.out.alloc _) ⟨W.heap.size, 0, none⟩ 1 1 [.string (t.extract x1 x2)] rfl rfl (cell_one_new _ _ _) (by simp [Value.oneCell']) (by have := HXS.out; simp only [maxLen]; omega) (by have := HXS.out; omega) (HSZ.out) ?_
            intro v' w1 hown' hgrow _
            obtain ⟨g', cap', rfl⟩ := ownsRow_succ hown'
            have HA := Aside0.mk (boxed_append (n₀ := w.heap.size) HV.out HR.out (by omega) (by omega) (by have := HSZ0.out; omega) hown' ⟨hgrow.os, hgrow.tape, hgrow.output, hgrow.size, hgrow.block⟩)
            have hd1 := HA.out.1.cell
            have hd2 := HA.out.1.frozen
            clear hown' hgrow
            refine hK _ _ ?_
            clear hK K
            change wpAny _ _ _ _ _ _ (Act.put _ (some 51) _) _
            try simp only [Act.put, List.setIfInBounds_toArray, List.set_cons_zero, List.set_cons_succ]
            refine wpAny_ready (rs := [7]) (by kernel_rfl) (by simp) ?_
            refine AllReady.cons rfl (fun K hK => ?_) AllReady.nil
            go_simp
            refine hK _ _ ?_
            clear hK K
            refine wpAny_done (by kernel_rfl) ?_ _
            obtain ⟨a1, a2, a3, a4, a5, a6⟩ := HA.out
            refine ⟨a4.from _, ⟨fun hb => (a6 _ (by omega) (by omega)).trans hb, a4.walks⟩, ⟨⟨_, a2, ?_⟩, (a6 _ (by omega) (by omega)).trans HBT.out, (a6 _ (by omega) (by omega)).trans HPB.out⟩, HB.out.trans a5, Nat.le_trans HSZ0.out a4.size⟩
            rw [HHIT.out g1 g2, HXE.out]
            simpa [lnT] using a3
    case done =>
      rintro D ys W hD hys ⟨⟨⟨v, hv, hrow⟩, hbt, hpb⟩, hB, hsW⟩ hK
      have hc := hv.cell
      gi_wp2
      refine ⟨by simp, .inl ⟨_, _, rfl, run_takeDeferred hK, ?_⟩⟩
      refine ⟨_, results_tmp2 rfl _ _ _, v, rfl, ?_, hB.trans (belowK_b (w := w) (Nat.le_refl _) W D _ _ (by omega) hK rfl rfl)⟩
      have h9 := ownsRow_putObj hrow (.deferred none) hK rfl
      have e1 : inP t a b ys = (((lns t).filter (within a b)).map (lnT t)).map Value.string := by rw [inP, hys, List.map_map]; rfl
      have e2 : (inP t a b ys).length = (((lns t).filter (within a b)).map (lnT t)).length := by rw [e1, List.length_map]
      rw [e2, e1] at h9
      exact ownsRow_lower h9 (by omega)
    case stop =>
      rintro D c pre W _ _ h _
      exact h.elim
/-- what Of answers -/
def lines_Of.f (t : ByteArray) (a b : Int) : Option (List ByteArray × Int) := if t.size ≤ 4194304 then some (ofL t a b) else none
theorem lines_Of.calls (a0 : ByteArray) (a1_0 : Int) (a1_1 : Int) (r1 : List ByteArray) (r2 : Int) (w : World) (h : lines_Of.f a0 a1_0 a1_1 = some (r1, r2)) :
    Calls Try.prog 14 #[.string a0, .agg #[.int .i64 a1_0, .int .i64 a1_1]] w fun e w' => ∃ v0_ : Value, e = .returned (.tuple #[v0_, .int .i64 r2]) ∧ Kd.R Kd.string 9 w' w.heap.size (fun _ => True) v0_ r1 ∧ Below w.heap.size w w' := by
  unfold lines_Of.f at h
  by_cases ht : a0.size ≤ 4194304
  · rw [if_pos ht] at h
    injection h with h
    refine (callsIn_wide.1 (Of_in a0 a1_0 a1_1 w ht)).mono ?_
    rw [h]
    rintro e W' ⟨v, rfl, ho, hB⟩
    exact ⟨v, rfl, R_of_owns _ ho, hB⟩
  · rw [if_neg ht] at h
    cases h
end Go.Proofs.Ytbcggfjfgoabpaa.P

end
section
-- Written by a program of this session (wip/tools/hprint.py, over the kit's printer), not by hand. Lean checks it.
namespace Go.Proofs.Ytbcggfjfgoabpaa.P
open Go.RowKit Go.Proofs.YtbcggfjfgoabpaaW.PrintWords Go.Proofs.YtbcggfjfgoabpaaW.PrintLast Go.Proofs.YtbcggfjfgoabpaaW.PrintMore
attribute [local go_sem] max2_int min2_int max_two min_two max_three min_three max_four min_four
set_option linter.unusedVariables false
set_option linter.unusedSimpArgs false

attribute [local go_sem high] eqA23
/-! ### winnowlaw13_works: function 27 -/
def winnowlaw13_works.f  : Option (Bool) := (lines_Splits.f (⟨#[97, 98, 10, 99, 100, 10]⟩ : ByteArray) (([3] : List Int))).bind fun bt379 => (if bt379.2 = 0 then (if (bt379.1.length : Int) = 2 then (if 0 < (bt379.1.length : Int) then (if (((rd_T23 bt379.1 0).f0) == 0 && ((((rd_T23 bt379.1 0).f1).toList) == ([97, 98, 10] : List UInt8))) = true then (if 1 < (bt379.1.length : Int) then (some (((rd_T23 bt379.1 1).f0) == 3 && ((((rd_T23 bt379.1 1).f1).toList) == ([99, 100, 10] : List UInt8)))) else (none)) else (some false)) else (none)) else (some false)) else (some false))
set_option maxHeartbeats 8000000 in
set_option maxRecDepth 100000 in
theorem winnowlaw13_works.calls  (r : Bool) (w : World) (h : winnowlaw13_works.f  = some r) :
    Calls Try.prog 27 #[] w fun e w' => e = .returned (.bool r) ∧ Below w.heap.size w w' := by
  have hu23 := Try.underlying23
  have HB := Aside0.mk (Below.refl w.heap.size w)
  have H : ((lines_Splits.f (⟨#[97, 98, 10, 99, 100, 10]⟩ : ByteArray) (([3] : List Int))).bind fun bt379 => (if bt379.2 = 0 then (if (bt379.1.length : Int) = 2 then (if 0 < (bt379.1.length : Int) then (if (((rd_T23 bt379.1 0).f0) == 0 && ((((rd_T23 bt379.1 0).f1).toList) == ([97, 98, 10] : List UInt8))) = true then (if 1 < (bt379.1.length : Int) then (some (((rd_T23 bt379.1 1).f0) == 3 && ((((rd_T23 bt379.1 1).f1).toList) == ([99, 100, 10] : List UInt8)))) else (none)) else (some false)) else (none)) else (some false)) else (some false))) = some r := h
  clear h
  obtain ⟨y376, hy376⟩ : ∃ y_ : List Int, y_ = (([3] : List Int)) := ⟨_, rfl⟩
  replace H : ((lines_Splits.f (⟨#[97, 98, 10, 99, 100, 10]⟩ : ByteArray) y376).bind fun bt379 => (if bt379.2 = 0 then (if (bt379.1.length : Int) = 2 then (if 0 < (bt379.1.length : Int) then (if (((rd_T23 bt379.1 0).f0) == 0 && ((((rd_T23 bt379.1 0).f1).toList) == ([97, 98, 10] : List UInt8))) = true then (if 1 < (bt379.1.length : Int) then (some (((rd_T23 bt379.1 1).f0) == 3 && ((((rd_T23 bt379.1 1).f1).toList) == ([99, 100, 10] : List UInt8)))) else (none)) else (some false)) else (none)) else (some false)) else (some false))) = some r := by first | (rw [hy376]; with_reducible exact H) | (have H2_ := (Option.bind_some _ _).symm.trans H; rw [hy376]; with_reducible exact H2_) | (have H2_ := (Option.bind_some _ _).symm.trans H; with_reducible exact H2_) | with_reducible exact H | (rw [hy376]; exact H) | exact H
  have Ny376 := Aside0.mk hy376
  clear hy376
  replace H := Option.bind_eq_some_iff.mp H
  obtain ⟨⟨t379, t380⟩, A10, H⟩ := H
  replace H : (if t380 = 0 then (if (t379.length : Int) = 2 then (if 0 < (t379.length : Int) then (if (((rd_T23 t379 0).f0) == 0 && ((((rd_T23 t379 0).f1).toList) == ([97, 98, 10] : List UInt8))) = true then (if 1 < (t379.length : Int) then (some (((rd_T23 t379 1).f0) == 3 && ((((rd_T23 t379 1).f1).toList) == ([99, 100, 10] : List UInt8)))) else (none)) else (some false)) else (none)) else (some false)) else (some false)) = some r := H
  have A1 := Aside0.mk A10
  clear A10
  by_cases c2 : t380 = 0
  · rw [if_pos c2] at H
    have c2b0 : (t380 == 0) = true := beq_iff_eq.mpr c2
    have c2b1 : (t380 != 0) = false := bne_eq_false_iff_eq.mpr c2
    clear c2
    by_cases c3 : (t379.length : Int) = 2
    · rw [if_pos c3] at H
      have c3b0 : ((t379.length : Int) == 2) = true := beq_iff_eq.mpr c3
      have c3b1 : ((t379.length : Int) != 2) = false := bne_eq_false_iff_eq.mpr c3
      clear c3
      by_cases c4 : 0 < (t379.length : Int)
      · rw [if_pos c4] at H
        have c4b0 : decide (0 < (t379.length : Int)) = true := decide_eq_true c4
        have c4b1 : decide (0 < t379.length) = true := decide_eq_true (by omega)
        clear c4
        by_cases c5 : (((rd_T23 t379 0).f0) == 0 && ((((rd_T23 t379 0).f1).toList) == ([97, 98, 10] : List UInt8))) = true
        · rw [if_pos c5] at H
          have c5b0 : (((rd_T23 t379 0).f0) == 0 && ((((rd_T23 t379 0).f1).toList) == ([97, 98, 10] : List UInt8))) = true := c5
          (try (have c5b1 : decide (((rd_T23 t379 0).f0) = 0 && ((((rd_T23 t379 0).f1).toList) == ([97, 98, 10] : List UInt8))) = true := by simpa using c5))
          (try (have c5b2 : (((rd_T23 t379 0).f0) == 0 && ((((rd_T23 t379 0).f1).toList) == ([97, 98, 10] : List UInt8))) = true := by simpa using c5))
          clear c5
          by_cases c6 : 1 < (t379.length : Int)
          · rw [if_pos c6] at H
            have c6b0 : decide (1 < (t379.length : Int)) = true := decide_eq_true c6
            have c6b1 : decide (1 < t379.length) = true := decide_eq_true (by omega)
            clear c6
            obtain rfl := Option.some.inj H
            go_enter Try.func27, Try.ntmps27
            go_wp2_with (first | ((with_reducible refine gate_dst (N := 4) rfl ?_); (try (refine gate_guard (by rfl) ?_; dsimp only)); refine Kd.R_lit (Kd.int .i64) _ 3 ?hg (N := 4) ?hd (xs := ([3] : List Int)) (inner := [.int .i64 3]) (ok := fun _ => True) (okp := fun _ => True) ?hr ?hp (fun _ hk => hk) trivial (Below.refl _ _) (Nat.le_refl _) (by simp) ?_; (case hd => rfl); (case hg => rfl); (case hr => first | (go_simp; done) | (go_simp; rfl)); (case hp => exact (Reps.one (show Kd.M (Kd.int .i64) _ _ _ 3 [.int .i64 3] from rfl) (Reps.none _ _))); intro v377 w7 ho8 hb hg_ hnew_; clear hg_ hnew_; (first | rw [← Ny376.out] at ho8 | (simp only [Int.reduceToNat] at ho8; rw [← Ny376.out] at ho8)); have n0_ := Aside0.mk (Kd.R_lower ho8 (below_size (by repeat (first | (with_reducible first | exact HB.out | apply below_alloc | apply pw_below_drewN | apply below_drew1) | exact HB.out)))); have n1_ := Aside0.mk (below_step (by repeat (first | (with_reducible first | exact HB.out | apply below_alloc | apply pw_below_drewN | apply below_drew1) | exact HB.out)) hb); clear HB; have HO378 := n0_; have HB := n1_; clear n0_ n1_; clear hb ho8; obtain ⟨Ao9, co9, eo9⟩ := Kd.R_slice HO378.out; subst eo9) | ((with_reducible refine gate_callee (f := 24) rfl ?_); refine goesL_ (some 5) rfl rfl Try.func24 (by kernel_rfl) rfl #[.string (⟨#[97, 98, 10, 99, 100, 10]⟩ : ByteArray), .slice Ao9 y376.length co9] rfl (by (try simp only [List.map_toArray, List.map_cons, List.map_nil]); first | done | rfl | (simp only [List.length_drop, List.length_take]; rfl)) ?_; (with_reducible refine (lines_Splits.calls (⟨#[97, 98, 10, 99, 100, 10]⟩ : ByteArray) _ _ y376 t379 t380 _ ?side1 ?side2 A1.out).mono ?_); (case side1 => repeat (first | exact (Kd.R_reads' HO378.out).2.2 | (with_reducible refine Kd.C_alloc ?_ _) | (with_reducible refine Kd.C_drewN ?_ _) | (with_reducible refine Kd.C_drew ?_))); (case side2 => exact (Kd.R_reads' HO378.out).2.1); rintro e w10 ⟨v381, rfl, ho0, hb⟩; refine ⟨_, rfl, ?_⟩; have n0_ := Aside0.mk (Kd.R_below (by (with_reducible repeat (first | apply Kd.R_alloc | apply Kd.R_drewN | apply Kd.R_drew)); exact HO378.out) hb); have n1_ := Aside0.mk (Kd.R_lower ho0 (below_size (by repeat (first | (with_reducible first | exact HB.out | apply below_alloc | apply pw_below_drewN | apply below_drew1) | exact HB.out)))); have n2_ := Aside0.mk (below_step (by repeat (first | (with_reducible first | exact HB.out | apply below_alloc | apply pw_below_drewN | apply below_drew1) | exact HB.out)) hb); clear HO378; clear HB; have HO378 := n0_; have HO382 := n1_; have HB := n2_; clear n0_ n1_ n2_; (try clear hb); (try clear hb2); (try clear hk); (try clear hi); (try clear ho0); obtain ⟨Ao11, co11, eo11⟩ := Kd.R_slice HO382.out; subst eo11; have p383 : 0 ≤ (0 : Int) := (by omega); have q383 : 0 < (t379.length : Int) := of_decide_eq_true (by first | (with_reducible assumption) | assumption); obtain ⟨ad383, e383, hx383_0, hx383_1⟩ := at_T23 (Kd.R_reads' HO382.out).2.2 0 p383 q383; cases e383; have qi383 : (0 < t379.length) = True := eq_true (by omega); (try rw [show ((0 : Int)).toNat = 0 from rfl] at hx383_0); (try rw [show 0 * 2 = 0 from rfl] at hx383_0); (try rw [Addr.add_zero'] at hx383_0); (try rw [show ((0 : Int)).toNat = 0 from rfl] at hx383_1); (try rw [show 0 * 2 = 0 from rfl] at hx383_1); (try rw [Addr.add_zero'] at hx383_1); replace p383 := eq_true p383; replace q383 := eq_true q383; have p384 : 0 ≤ (1 : Int) := (by omega); have q384 : 1 < (t379.length : Int) := of_decide_eq_true (by first | (with_reducible assumption) | assumption); obtain ⟨ad384, e384, hx384_0, hx384_1⟩ := at_T23 (Kd.R_reads' HO382.out).2.2 1 p384 q384; obtain rfl : ad383 = ad384 := (by injection e384); (try simp only [show (1 : Int).toNat = 1 from rfl, Nat.reduceMul, Nat.reduceEqDiff, Go.Addr.add, ↓reduceIte] at hx384_0); (try simp only [show (1 : Int).toNat = 1 from rfl, Nat.reduceMul, Nat.reduceEqDiff, Go.Addr.add, ↓reduceIte] at hx384_1); have qi384 : (1 < t379.length) = True := eq_true (by omega); (try rw [show ((1 : Int)).toNat = 1 from rfl] at hx384_0); (try rw [show 1 * 2 = 2 from rfl] at hx384_0); (try rw [show ((1 : Int)).toNat = 1 from rfl] at hx384_1); (try rw [show 1 * 2 = 2 from rfl] at hx384_1); replace p384 := eq_true p384; replace q384 := eq_true q384))
            go_ret
            exact ⟨by first | rfl | (simp [errW_none, errW_some] <;> rfl) | (simp [*, errW_none, errW_some] <;> rfl), by repeat (first | (with_reducible first | exact HB.out | apply below_alloc | apply pw_below_drewN | apply below_drew1) | exact HB.out)⟩
          · rw [if_neg c6] at H
            exact absurd H (by simp)
        · rw [if_neg c5] at H
          have c5b0 : (((rd_T23 t379 0).f0) == 0 && ((((rd_T23 t379 0).f1).toList) == ([97, 98, 10] : List UInt8))) = false := by simpa using c5
          (try (have c5b1 : decide (((rd_T23 t379 0).f0) = 0 && ((((rd_T23 t379 0).f1).toList) == ([97, 98, 10] : List UInt8))) = false := by simpa using c5))
          (try (have c5b2 : (((rd_T23 t379 0).f0) == 0 && ((((rd_T23 t379 0).f1).toList) == ([97, 98, 10] : List UInt8))) = false := by simpa using c5))
          (try (have c5b3 : ¬ (((rd_T23 t379 0).f0) = 0 && ((((rd_T23 t379 0).f1).toList) == ([97, 98, 10] : List UInt8))) := by simpa using c5))
          clear c5
          obtain rfl := Option.some.inj H
          go_enter Try.func27, Try.ntmps27
          go_wp2_with (first | ((with_reducible refine gate_dst (N := 4) rfl ?_); (try (refine gate_guard (by rfl) ?_; dsimp only)); refine Kd.R_lit (Kd.int .i64) _ 3 ?hg (N := 4) ?hd (xs := ([3] : List Int)) (inner := [.int .i64 3]) (ok := fun _ => True) (okp := fun _ => True) ?hr ?hp (fun _ hk => hk) trivial (Below.refl _ _) (Nat.le_refl _) (by simp) ?_; (case hd => rfl); (case hg => rfl); (case hr => first | (go_simp; done) | (go_simp; rfl)); (case hp => exact (Reps.one (show Kd.M (Kd.int .i64) _ _ _ 3 [.int .i64 3] from rfl) (Reps.none _ _))); intro v377 w12 ho13 hb hg_ hnew_; clear hg_ hnew_; (first | rw [← Ny376.out] at ho13 | (simp only [Int.reduceToNat] at ho13; rw [← Ny376.out] at ho13)); have n0_ := Aside0.mk (Kd.R_lower ho13 (below_size (by repeat (first | (with_reducible first | exact HB.out | apply below_alloc | apply pw_below_drewN | apply below_drew1) | exact HB.out)))); have n1_ := Aside0.mk (below_step (by repeat (first | (with_reducible first | exact HB.out | apply below_alloc | apply pw_below_drewN | apply below_drew1) | exact HB.out)) hb); clear HB; have HO378 := n0_; have HB := n1_; clear n0_ n1_; clear hb ho13; obtain ⟨Ao14, co14, eo14⟩ := Kd.R_slice HO378.out; subst eo14) | ((with_reducible refine gate_callee (f := 24) rfl ?_); refine goesL_ (some 5) rfl rfl Try.func24 (by kernel_rfl) rfl #[.string (⟨#[97, 98, 10, 99, 100, 10]⟩ : ByteArray), .slice Ao14 y376.length co14] rfl (by (try simp only [List.map_toArray, List.map_cons, List.map_nil]); first | done | rfl | (simp only [List.length_drop, List.length_take]; rfl)) ?_; (with_reducible refine (lines_Splits.calls (⟨#[97, 98, 10, 99, 100, 10]⟩ : ByteArray) _ _ y376 t379 t380 _ ?side1 ?side2 A1.out).mono ?_); (case side1 => repeat (first | exact (Kd.R_reads' HO378.out).2.2 | (with_reducible refine Kd.C_alloc ?_ _) | (with_reducible refine Kd.C_drewN ?_ _) | (with_reducible refine Kd.C_drew ?_))); (case side2 => exact (Kd.R_reads' HO378.out).2.1); rintro e w15 ⟨v381, rfl, ho0, hb⟩; refine ⟨_, rfl, ?_⟩; have n0_ := Aside0.mk (Kd.R_below (by (with_reducible repeat (first | apply Kd.R_alloc | apply Kd.R_drewN | apply Kd.R_drew)); exact HO378.out) hb); have n1_ := Aside0.mk (Kd.R_lower ho0 (below_size (by repeat (first | (with_reducible first | exact HB.out | apply below_alloc | apply pw_below_drewN | apply below_drew1) | exact HB.out)))); have n2_ := Aside0.mk (below_step (by repeat (first | (with_reducible first | exact HB.out | apply below_alloc | apply pw_below_drewN | apply below_drew1) | exact HB.out)) hb); clear HO378; clear HB; have HO378 := n0_; have HO382 := n1_; have HB := n2_; clear n0_ n1_ n2_; (try clear hb); (try clear hb2); (try clear hk); (try clear hi); (try clear ho0); obtain ⟨Ao16, co16, eo16⟩ := Kd.R_slice HO382.out; subst eo16; have p383 : 0 ≤ (0 : Int) := (by omega); have q383 : 0 < (t379.length : Int) := of_decide_eq_true (by first | (with_reducible assumption) | assumption); obtain ⟨ad383, e383, hx383_0, hx383_1⟩ := at_T23 (Kd.R_reads' HO382.out).2.2 0 p383 q383; cases e383; have qi383 : (0 < t379.length) = True := eq_true (by omega); (try rw [show ((0 : Int)).toNat = 0 from rfl] at hx383_0); (try rw [show 0 * 2 = 0 from rfl] at hx383_0); (try rw [Addr.add_zero'] at hx383_0); (try rw [show ((0 : Int)).toNat = 0 from rfl] at hx383_1); (try rw [show 0 * 2 = 0 from rfl] at hx383_1); (try rw [Addr.add_zero'] at hx383_1); replace p383 := eq_true p383; replace q383 := eq_true q383))
          go_ret
          exact ⟨by first | rfl | (simp [errW_none, errW_some] <;> rfl) | (simp [*, errW_none, errW_some] <;> rfl), by repeat (first | (with_reducible first | exact HB.out | apply below_alloc | apply pw_below_drewN | apply below_drew1) | exact HB.out)⟩
      · rw [if_neg c4] at H
        exact absurd H (by simp)
    · rw [if_neg c3] at H
      have c3b0 : ((t379.length : Int) == 2) = false := beq_eq_false_iff_ne.mpr c3
      have c3b1 : ((t379.length : Int) != 2) = true := bne_iff_ne.mpr c3
      obtain rfl := Option.some.inj H
      go_enter Try.func27, Try.ntmps27
      go_wp2_with (first | ((with_reducible refine gate_dst (N := 4) rfl ?_); (try (refine gate_guard (by rfl) ?_; dsimp only)); refine Kd.R_lit (Kd.int .i64) _ 3 ?hg (N := 4) ?hd (xs := ([3] : List Int)) (inner := [.int .i64 3]) (ok := fun _ => True) (okp := fun _ => True) ?hr ?hp (fun _ hk => hk) trivial (Below.refl _ _) (Nat.le_refl _) (by simp) ?_; (case hd => rfl); (case hg => rfl); (case hr => first | (go_simp; done) | (go_simp; rfl)); (case hp => exact (Reps.one (show Kd.M (Kd.int .i64) _ _ _ 3 [.int .i64 3] from rfl) (Reps.none _ _))); intro v377 w17 ho18 hb hg_ hnew_; clear hg_ hnew_; (first | rw [← Ny376.out] at ho18 | (simp only [Int.reduceToNat] at ho18; rw [← Ny376.out] at ho18)); have n0_ := Aside0.mk (Kd.R_lower ho18 (below_size (by repeat (first | (with_reducible first | exact HB.out | apply below_alloc | apply pw_below_drewN | apply below_drew1) | exact HB.out)))); have n1_ := Aside0.mk (below_step (by repeat (first | (with_reducible first | exact HB.out | apply below_alloc | apply pw_below_drewN | apply below_drew1) | exact HB.out)) hb); clear HB; have HO378 := n0_; have HB := n1_; clear n0_ n1_; clear hb ho18; obtain ⟨Ao19, co19, eo19⟩ := Kd.R_slice HO378.out; subst eo19) | ((with_reducible refine gate_callee (f := 24) rfl ?_); refine goesL_ (some 5) rfl rfl Try.func24 (by kernel_rfl) rfl #[.string (⟨#[97, 98, 10, 99, 100, 10]⟩ : ByteArray), .slice Ao19 y376.length co19] rfl (by (try simp only [List.map_toArray, List.map_cons, List.map_nil]); first | done | rfl | (simp only [List.length_drop, List.length_take]; rfl)) ?_; (with_reducible refine (lines_Splits.calls (⟨#[97, 98, 10, 99, 100, 10]⟩ : ByteArray) _ _ y376 t379 t380 _ ?side1 ?side2 A1.out).mono ?_); (case side1 => repeat (first | exact (Kd.R_reads' HO378.out).2.2 | (with_reducible refine Kd.C_alloc ?_ _) | (with_reducible refine Kd.C_drewN ?_ _) | (with_reducible refine Kd.C_drew ?_))); (case side2 => exact (Kd.R_reads' HO378.out).2.1); rintro e w20 ⟨v381, rfl, ho0, hb⟩; refine ⟨_, rfl, ?_⟩; have n0_ := Aside0.mk (Kd.R_below (by (with_reducible repeat (first | apply Kd.R_alloc | apply Kd.R_drewN | apply Kd.R_drew)); exact HO378.out) hb); have n1_ := Aside0.mk (Kd.R_lower ho0 (below_size (by repeat (first | (with_reducible first | exact HB.out | apply below_alloc | apply pw_below_drewN | apply below_drew1) | exact HB.out)))); have n2_ := Aside0.mk (below_step (by repeat (first | (with_reducible first | exact HB.out | apply below_alloc | apply pw_below_drewN | apply below_drew1) | exact HB.out)) hb); clear HO378; clear HB; have HO378 := n0_; have HO382 := n1_; have HB := n2_; clear n0_ n1_ n2_; (try clear hb); (try clear hb2); (try clear hk); (try clear hi); (try clear ho0); obtain ⟨Ao21, co21, eo21⟩ := Kd.R_slice HO382.out; subst eo21))
      go_ret
      exact ⟨by first | rfl | (simp [errW_none, errW_some] <;> rfl) | (simp [*, errW_none, errW_some] <;> rfl), by repeat (first | (with_reducible first | exact HB.out | apply below_alloc | apply pw_below_drewN | apply below_drew1) | exact HB.out)⟩
  · rw [if_neg c2] at H
    have c2b0 : (t380 == 0) = false := beq_eq_false_iff_ne.mpr c2
    have c2b1 : (t380 != 0) = true := bne_iff_ne.mpr c2
    obtain rfl := Option.some.inj H
    go_enter Try.func27, Try.ntmps27
    go_wp2_with (first | ((with_reducible refine gate_dst (N := 4) rfl ?_); (try (refine gate_guard (by rfl) ?_; dsimp only)); refine Kd.R_lit (Kd.int .i64) _ 3 ?hg (N := 4) ?hd (xs := ([3] : List Int)) (inner := [.int .i64 3]) (ok := fun _ => True) (okp := fun _ => True) ?hr ?hp (fun _ hk => hk) trivial (Below.refl _ _) (Nat.le_refl _) (by simp) ?_; (case hd => rfl); (case hg => rfl); (case hr => first | (go_simp; done) | (go_simp; rfl)); (case hp => exact (Reps.one (show Kd.M (Kd.int .i64) _ _ _ 3 [.int .i64 3] from rfl) (Reps.none _ _))); intro v377 w22 ho23 hb hg_ hnew_; clear hg_ hnew_; (first | rw [← Ny376.out] at ho23 | (simp only [Int.reduceToNat] at ho23; rw [← Ny376.out] at ho23)); have n0_ := Aside0.mk (Kd.R_lower ho23 (below_size (by repeat (first | (with_reducible first | exact HB.out | apply below_alloc | apply pw_below_drewN | apply below_drew1) | exact HB.out)))); have n1_ := Aside0.mk (below_step (by repeat (first | (with_reducible first | exact HB.out | apply below_alloc | apply pw_below_drewN | apply below_drew1) | exact HB.out)) hb); clear HB; have HO378 := n0_; have HB := n1_; clear n0_ n1_; clear hb ho23; obtain ⟨Ao24, co24, eo24⟩ := Kd.R_slice HO378.out; subst eo24) | ((with_reducible refine gate_callee (f := 24) rfl ?_); refine goesL_ (some 5) rfl rfl Try.func24 (by kernel_rfl) rfl #[.string (⟨#[97, 98, 10, 99, 100, 10]⟩ : ByteArray), .slice Ao24 y376.length co24] rfl (by (try simp only [List.map_toArray, List.map_cons, List.map_nil]); first | done | rfl | (simp only [List.length_drop, List.length_take]; rfl)) ?_; (with_reducible refine (lines_Splits.calls (⟨#[97, 98, 10, 99, 100, 10]⟩ : ByteArray) _ _ y376 t379 t380 _ ?side1 ?side2 A1.out).mono ?_); (case side1 => repeat (first | exact (Kd.R_reads' HO378.out).2.2 | (with_reducible refine Kd.C_alloc ?_ _) | (with_reducible refine Kd.C_drewN ?_ _) | (with_reducible refine Kd.C_drew ?_))); (case side2 => exact (Kd.R_reads' HO378.out).2.1); rintro e w25 ⟨v381, rfl, ho0, hb⟩; refine ⟨_, rfl, ?_⟩; have n0_ := Aside0.mk (Kd.R_below (by (with_reducible repeat (first | apply Kd.R_alloc | apply Kd.R_drewN | apply Kd.R_drew)); exact HO378.out) hb); have n1_ := Aside0.mk (Kd.R_lower ho0 (below_size (by repeat (first | (with_reducible first | exact HB.out | apply below_alloc | apply pw_below_drewN | apply below_drew1) | exact HB.out)))); have n2_ := Aside0.mk (below_step (by repeat (first | (with_reducible first | exact HB.out | apply below_alloc | apply pw_below_drewN | apply below_drew1) | exact HB.out)) hb); clear HO378; clear HB; have HO378 := n0_; have HO382 := n1_; have HB := n2_; clear n0_ n1_ n2_; (try clear hb); (try clear hb2); (try clear hk); (try clear hi); (try clear ho0)))
    go_ret
    exact ⟨by first | rfl | (simp [errW_none, errW_some] <;> rfl) | (simp [*, errW_none, errW_some] <;> rfl), by repeat (first | (with_reducible first | exact HB.out | apply below_alloc | apply pw_below_drewN | apply below_drew1) | exact HB.out)⟩

end Go.Proofs.Ytbcggfjfgoabpaa.P

end
section
-- Written by a program of this session (wip/tools/hprint.py, over the kit's printer), not by hand. Lean checks it.
namespace Go.Proofs.Ytbcggfjfgoabpaa.P
open Go.RowKit Go.Proofs.YtbcggfjfgoabpaaW.PrintWords Go.Proofs.YtbcggfjfgoabpaaW.PrintLast Go.Proofs.YtbcggfjfgoabpaaW.PrintMore
attribute [local go_sem] max2_int min2_int max_two min_two max_three min_three max_four min_four
set_option linter.unusedVariables false
set_option linter.unusedSimpArgs false

/-! ### winnowlaw13_LinesTouch: function 8 -/
def winnowlaw13_LinesTouch.j0 : Nat → ByteArray → Int → Int → Int → Bool → Option (Bool)
  | 0, _, _, _, _, _ => none
  | k + 1, x0, x1, x2, x3, x37 => if x37 = true then ((winnowlaw13_works.f).bind fun t397 => (some t397)) else ((lines_Of.f x0 x1 x2).bind fun bt398 => ((lines_Of.f x0 x2 x3).bind fun bt402 => ((lines_Of.f x0 x1 x3).bind fun bt406 => (if bt398.2 = 0 then (if bt402.2 = 0 then (if bt406.2 = 0 then (if bt398.1.length + bt402.1.length < 8796093022208 then ((winnowlaw13_sameTexts.f k (bt398.1 ++ bt402.1) bt406.1).bind fun t413 => (if t413 = true then ((winnowlaw13_works.f).bind fun t414 => (some t414)) else (some false))) else (none)) else (some false)) else (some false)) else (some false)))))
def winnowlaw13_LinesTouch.f (k : Nat) (a0 : ByteArray) (a1 : Int) (a2 : Int) (a3 : Int) : Option (Bool) := if a1 < 0 then (winnowlaw13_LinesTouch.j0 k a0 a1 a2 a3 true) else (if a1 > a2 then (winnowlaw13_LinesTouch.j0 k a0 a1 a2 a3 true) else (if a2 > a3 then (winnowlaw13_LinesTouch.j0 k a0 a1 a2 a3 true) else (if a3 > (a0.size : Int) then (winnowlaw13_LinesTouch.j0 k a0 a1 a2 a3 true) else (winnowlaw13_LinesTouch.j0 k a0 a1 a2 a3 (decide ((a0.size : Int) > 4194304))))))
theorem winnowlaw13_LinesTouch.mono_l : ∀ k, (∀ y0 y1 y2 y3 y4, LeO (winnowlaw13_LinesTouch.j0 k y0 y1 y2 y3 y4) (winnowlaw13_LinesTouch.j0 (k + 1) y0 y1 y2 y3 y4))
  | 0 => fun _ _ _ _ _ r h => by simp [winnowlaw13_LinesTouch.j0] at h
  | k + 1 => by
    have ih0 := winnowlaw13_LinesTouch.mono_l k
    · intro y0 y1 y2 y3 y4
      unfold winnowlaw13_LinesTouch.j0
      repeat' first
      | (with_reducible exact ih0 _ _ _ _ _)
      | (with_reducible exact winnowlaw13_sameTexts.mono _ _ _)
      | (with_reducible exact LeO.refl _)
      | (with_reducible exact LeO.none _)
      | (with_reducible refine LeO.ite ?_ ?_)
      | (with_reducible refine LeO.bind ?_ (fun _ => ?_))
      | exact ih0 _ _ _ _ _
      | exact winnowlaw13_sameTexts.mono _ _ _
      | exact LeO.none _
      | refine LeO.ite ?_ ?_
      | refine LeO.bind ?_ (fun _ => ?_)
theorem winnowlaw13_LinesTouch.mono : ∀ a0 a1 a2 a3 k, LeO (winnowlaw13_LinesTouch.f k a0 a1 a2 a3) (winnowlaw13_LinesTouch.f (k + 1) a0 a1 a2 a3) := by
  intro a0 a1 a2 a3 k
  have ih0 := winnowlaw13_LinesTouch.mono_l k
  unfold winnowlaw13_LinesTouch.f
  repeat' first
      | (with_reducible exact ih0 _ _ _ _ _)
      | (with_reducible exact winnowlaw13_sameTexts.mono _ _ _)
      | (with_reducible exact LeO.refl _)
      | (with_reducible exact LeO.none _)
      | (with_reducible refine LeO.ite ?_ ?_)
      | (with_reducible refine LeO.bind ?_ (fun _ => ?_))
      | exact ih0 _ _ _ _ _
      | exact winnowlaw13_sameTexts.mono _ _ _
      | exact LeO.none _
      | refine LeO.ite ?_ ?_
      | refine LeO.bind ?_ (fun _ => ?_)
set_option maxHeartbeats 8000000 in
set_option maxRecDepth 100000 in
theorem winnowlaw13_LinesTouch.calls (k : Nat) (a0 : ByteArray) (a1 : Int) (a2 : Int) (a3 : Int) (r : Bool) (w : World) (h : winnowlaw13_LinesTouch.f k a0 a1 a2 a3 = some r) :
    Calls Try.prog 8 #[.string a0, .int .i64 a1, .int .i64 a2, .int .i64 a3] w fun e w' => e = .returned (.bool r) ∧ Below w.heap.size w w' := by
  have hu33 := Try.underlying33
  have HB := Aside0.mk (Below.refl w.heap.size w)
  have H : (if a1 < 0 then (winnowlaw13_LinesTouch.j0 k a0 a1 a2 a3 true) else (if a1 > a2 then (winnowlaw13_LinesTouch.j0 k a0 a1 a2 a3 true) else (if a2 > a3 then (winnowlaw13_LinesTouch.j0 k a0 a1 a2 a3 true) else (if a3 > (a0.size : Int) then (winnowlaw13_LinesTouch.j0 k a0 a1 a2 a3 true) else (winnowlaw13_LinesTouch.j0 k a0 a1 a2 a3 (decide ((a0.size : Int) > 4194304))))))) = some r := h
  clear h
  have HC5 := Aside0.mk H
  clear H
  go_enter Try.func8, Try.ntmps8
  go_upto_region 1 with (fail)
  go_cut [37] (fun v37 wc => ∃ (kq : Nat) (x37_4 : Bool), v37 = .bool x37_4 ∧ Aside0 (winnowlaw13_LinesTouch.j0 kq a0 a1 a2 a3 x37_4 = some r) ∧ Aside0 (kq ≤ k) ∧ Aside0 (Below w.heap.size w wc))
  case first =>
    have H := HC5.out
    clear HC5
    by_cases c6 : a1 < 0
    · rw [if_pos c6] at H
      have c6b0 : decide (a1 < 0) = true := decide_eq_true c6
      clear c6
      (first | rw [c6b0] | (simp only [i64_w, i32_w]; rw [c6b0]) | skip)
      have H' := Aside0.mk H
      clear H
      go_wp2
      go_meet
      case rel => exact ⟨_, (true), (by first | rfl | (simp; done) | (simp [*]; done)), H', ⟨by first | omega | exact Nat.le_refl _⟩, ⟨by repeat (first | (with_reducible first | exact HB.out | apply below_alloc | apply pw_below_drewN | apply below_drew1) | exact HB.out)⟩⟩
    · rw [if_neg c6] at H
      have c6b0 : decide (a1 < 0) = false := decide_eq_false c6
      clear c6
      (first | rw [c6b0] | (simp only [i64_w, i32_w]; rw [c6b0]) | skip)
      by_cases c7 : a1 > a2
      · rw [if_pos c7] at H
        have c7b0 : decide (a2 < a1) = true := decide_eq_true c7
        clear c7
        have H' := Aside0.mk H
        clear H
        go_wp2
        go_meet
        case rel => exact ⟨_, (true), (by first | rfl | (simp; done) | (simp [*]; done)), H', ⟨by first | omega | exact Nat.le_refl _⟩, ⟨by repeat (first | (with_reducible first | exact HB.out | apply below_alloc | apply pw_below_drewN | apply below_drew1) | exact HB.out)⟩⟩
      · rw [if_neg c7] at H
        have c7b0 : decide (a2 < a1) = false := decide_eq_false c7
        clear c7
        by_cases c8 : a2 > a3
        · rw [if_pos c8] at H
          have c8b0 : decide (a3 < a2) = true := decide_eq_true c8
          clear c8
          have H' := Aside0.mk H
          clear H
          go_wp2
          go_meet
          case rel => exact ⟨_, (true), (by first | rfl | (simp; done) | (simp [*]; done)), H', ⟨by first | omega | exact Nat.le_refl _⟩, ⟨by repeat (first | (with_reducible first | exact HB.out | apply below_alloc | apply pw_below_drewN | apply below_drew1) | exact HB.out)⟩⟩
        · rw [if_neg c8] at H
          have c8b0 : decide (a3 < a2) = false := decide_eq_false c8
          clear c8
          by_cases c9 : a3 > (a0.size : Int)
          · rw [if_pos c9] at H
            have c9b0 : decide ((a0.size : Int) < a3) = true := decide_eq_true c9
            clear c9
            have H' := Aside0.mk H
            clear H
            go_wp2
            go_meet
            case rel => exact ⟨_, (true), (by first | rfl | (simp; done) | (simp [*]; done)), H', ⟨by first | omega | exact Nat.le_refl _⟩, ⟨by repeat (first | (with_reducible first | exact HB.out | apply below_alloc | apply pw_below_drewN | apply below_drew1) | exact HB.out)⟩⟩
          · rw [if_neg c9] at H
            have c9b0 : decide ((a0.size : Int) < a3) = false := decide_eq_false c9
            clear c9
            have H' := Aside0.mk H
            clear H
            go_wp2
            go_meet
            case rel => exact ⟨_, (decide ((a0.size : Int) > 4194304)), (by first | rfl | (simp; done) | (simp [*]; done)), H', ⟨by first | omega | exact Nat.le_refl _⟩, ⟨by repeat (first | (with_reducible first | exact HB.out | apply below_alloc | apply pw_below_drewN | apply below_drew1) | exact HB.out)⟩⟩
  case rest =>
    clear HC5
    try clear p2
    try clear c6
    try clear c6b0
    try clear c7
    try clear c7b0
    try clear c8
    try clear c8b0
    try clear c9
    try clear c9b0
    obtain ⟨kq, x37_4, rfl, HA, HJ4, HB⟩ := hcut
    cases kq with
    | zero => exact absurd HA.out (by simp [winnowlaw13_LinesTouch.j0])
    | succ kj4 =>
      have H := HA.out
      clear HA
      simp only [winnowlaw13_LinesTouch.j0] at H
      by_cases c10 : x37_4 = true
      · subst c10
        have H1 : ((winnowlaw13_works.f).bind fun t397 => (some t397)) = some r := by rw [if_pos rfl] at H; exact H
        clear H
        have H := H1
        clear H1
        replace H := Option.bind_eq_some_iff.mp H
        obtain ⟨t397, A110, H⟩ := H
        replace H : (some t397) = some r := H
        have A11 := Aside0.mk A110
        clear A110
        obtain rfl := Option.some.inj H
        go_wp2_with (first | ((with_reducible refine gate_callee (f := 27) rfl ?_); refine goesL_ (some 38) rfl rfl Try.func27 (by kernel_rfl) rfl #[] rfl (by (try simp only [List.map_toArray, List.map_cons, List.map_nil]); first | done | rfl | (simp only [List.length_drop, List.length_take]; rfl)) ?_; (with_reducible refine (winnowlaw13_works.calls  t397 _ A11.out).mono ?_); rintro e w12 ⟨rfl, hb⟩; refine ⟨_, rfl, ?_⟩; have n0_ := Aside0.mk (below_step (by repeat (first | (with_reducible first | exact HB.out | apply below_alloc | apply pw_below_drewN | apply below_drew1) | exact HB.out)) hb); clear HB; have HB := n0_; clear n0_; (try clear hb); (try clear hb2); (try clear hk); (try clear hi)))
        go_ret
        exact ⟨by first | rfl | (simp [errW_none, errW_some] <;> rfl) | (simp [*, errW_none, errW_some] <;> rfl), by repeat (first | (with_reducible first | exact HB.out | apply below_alloc | apply pw_below_drewN | apply below_drew1) | exact HB.out)⟩
      · replace c10 := Bool.eq_false_iff.mpr c10
        subst c10
        have H1 : ((lines_Of.f a0 a1 a2).bind fun bt398 => ((lines_Of.f a0 a2 a3).bind fun bt402 => ((lines_Of.f a0 a1 a3).bind fun bt406 => (if bt398.2 = 0 then (if bt402.2 = 0 then (if bt406.2 = 0 then (if bt398.1.length + bt402.1.length < 8796093022208 then ((winnowlaw13_sameTexts.f kj4 (bt398.1 ++ bt402.1) bt406.1).bind fun t413 => (if t413 = true then ((winnowlaw13_works.f).bind fun t414 => (some t414)) else (some false))) else (none)) else (some false)) else (some false)) else (some false))))) = some r := by rw [if_neg (show ¬ (false = true) by decide)] at H; exact H
        clear H
        have H := H1
        clear H1
        replace H := Option.bind_eq_some_iff.mp H
        obtain ⟨⟨t398, t401⟩, A130, H⟩ := H
        replace H : ((lines_Of.f a0 a2 a3).bind fun bt402 => ((lines_Of.f a0 a1 a3).bind fun bt406 => (if t401 = 0 then (if bt402.2 = 0 then (if bt406.2 = 0 then (if t398.length + bt402.1.length < 8796093022208 then ((winnowlaw13_sameTexts.f kj4 (t398 ++ bt402.1) bt406.1).bind fun t413 => (if t413 = true then ((winnowlaw13_works.f).bind fun t414 => (some t414)) else (some false))) else (none)) else (some false)) else (some false)) else (some false)))) = some r := H
        have A13 := Aside0.mk A130
        clear A130
        replace H := Option.bind_eq_some_iff.mp H
        obtain ⟨⟨t402, t405⟩, A140, H⟩ := H
        replace H : ((lines_Of.f a0 a1 a3).bind fun bt406 => (if t401 = 0 then (if t405 = 0 then (if bt406.2 = 0 then (if t398.length + t402.length < 8796093022208 then ((winnowlaw13_sameTexts.f kj4 (t398 ++ t402) bt406.1).bind fun t413 => (if t413 = true then ((winnowlaw13_works.f).bind fun t414 => (some t414)) else (some false))) else (none)) else (some false)) else (some false)) else (some false))) = some r := H
        have A14 := Aside0.mk A140
        clear A140
        replace H := Option.bind_eq_some_iff.mp H
        obtain ⟨⟨t406, t409⟩, A150, H⟩ := H
        replace H : (if t401 = 0 then (if t405 = 0 then (if t409 = 0 then (if t398.length + t402.length < 8796093022208 then ((winnowlaw13_sameTexts.f kj4 (t398 ++ t402) t406).bind fun t413 => (if t413 = true then ((winnowlaw13_works.f).bind fun t414 => (some t414)) else (some false))) else (none)) else (some false)) else (some false)) else (some false)) = some r := H
        have A15 := Aside0.mk A150
        clear A150
        by_cases c16 : t401 = 0
        · rw [if_pos c16] at H
          have c16b0 : (t401 == 0) = true := beq_iff_eq.mpr c16
          have c16b1 : (t401 != 0) = false := bne_eq_false_iff_eq.mpr c16
          clear c16
          by_cases c17 : t405 = 0
          · rw [if_pos c17] at H
            have c17b0 : (t405 == 0) = true := beq_iff_eq.mpr c17
            have c17b1 : (t405 != 0) = false := bne_eq_false_iff_eq.mpr c17
            clear c17
            by_cases c18 : t409 = 0
            · rw [if_pos c18] at H
              have c18b0 : (t409 == 0) = true := beq_iff_eq.mpr c18
              have c18b1 : (t409 != 0) = false := bne_eq_false_iff_eq.mpr c18
              clear c18
              by_cases c19 : t398.length + t402.length < 8796093022208
              · rw [if_pos c19] at H
                have LMc19 := Aside0.mk c19
                clear c19
                obtain ⟨y410, hy410⟩ : ∃ y_ : List ByteArray, y_ = (t398 ++ t402) := ⟨_, rfl⟩
                replace H : ((winnowlaw13_sameTexts.f kj4 y410 t406).bind fun t413 => (if t413 = true then ((winnowlaw13_works.f).bind fun t414 => (some t414)) else (some false))) = some r := by first | (rw [hy410]; with_reducible exact H) | (have H2_ := (Option.bind_some _ _).symm.trans H; rw [hy410]; with_reducible exact H2_) | (have H2_ := (Option.bind_some _ _).symm.trans H; with_reducible exact H2_) | with_reducible exact H | (rw [hy410]; exact H) | exact H
                have Ny410 := Aside0.mk hy410
                clear hy410
                replace H := Option.bind_eq_some_iff.mp H
                obtain ⟨t413, A200, H⟩ := H
                replace H : (if t413 = true then ((winnowlaw13_works.f).bind fun t414 => (some t414)) else (some false)) = some r := H
                have A20 := Aside0.mk A200
                clear A200
                by_cases c21 : t413 = true
                · subst c21
                  have H1 : ((winnowlaw13_works.f).bind fun t414 => (some t414)) = some r := by rw [if_pos rfl] at H; exact H
                  clear H
                  have H := H1
                  clear H1
                  replace H := Option.bind_eq_some_iff.mp H
                  obtain ⟨t414, A220, H⟩ := H
                  replace H : (some t414) = some r := H
                  have A22 := Aside0.mk A220
                  clear A220
                  obtain rfl := Option.some.inj H
                  go_wp2_with (first | ((with_reducible refine gate_callee (f := 14) rfl ?_); refine goesL_ (some 44) rfl rfl Try.func14 (by kernel_rfl) rfl #[.string a0, .agg #[.int .i64 a1, .int .i64 a2]] rfl (by (try simp only [List.map_toArray, List.map_cons, List.map_nil]); first | done | rfl | (simp only [List.length_drop, List.length_take]; rfl)) ?_; (with_reducible refine (lines_Of.calls a0 a1 a2 t398 t401 _ A13.out).mono ?_); rintro e w23 ⟨v399, rfl, ho0, hb⟩; refine ⟨_, rfl, ?_⟩; have n0_ := Aside0.mk (Kd.R_lower ho0 (below_size (by repeat (first | (with_reducible first | exact HB.out | apply below_alloc | apply pw_below_drewN | apply below_drew1) | exact HB.out)))); have n1_ := Aside0.mk (below_step (by repeat (first | (with_reducible first | exact HB.out | apply below_alloc | apply pw_below_drewN | apply below_drew1) | exact HB.out)) hb); clear HB; have HO400 := n0_; have HB := n1_; clear n0_ n1_; (try clear hb); (try clear hb2); (try clear hk); (try clear hi); (try clear ho0)) | ((with_reducible refine gate_callee (f := 14) rfl ?_); refine goesL_ (some 52) rfl rfl Try.func14 (by kernel_rfl) rfl #[.string a0, .agg #[.int .i64 a2, .int .i64 a3]] rfl (by (try simp only [List.map_toArray, List.map_cons, List.map_nil]); first | done | rfl | (simp only [List.length_drop, List.length_take]; rfl)) ?_; (with_reducible refine (lines_Of.calls a0 a2 a3 t402 t405 _ A14.out).mono ?_); rintro e w24 ⟨v403, rfl, ho0, hb⟩; refine ⟨_, rfl, ?_⟩; have n0_ := Aside0.mk (Kd.R_elder' (by (with_reducible repeat (first | apply Kd.R_alloc | apply Kd.R_drewN | apply Kd.R_drew)); exact HO400.out) (Kd.R_base ho0) hb); have n1_ := Aside0.mk (Kd.R_lower (Kd.R_new' ho0 (Kd.R_lt (by (with_reducible repeat (first | apply Kd.R_alloc | apply Kd.R_drewN | apply Kd.R_drew)); exact HO400.out))) (below_size (by repeat (first | (with_reducible first | exact HB.out | apply below_alloc | apply pw_below_drewN | apply below_drew1) | exact HB.out)))); have n2_ := Aside0.mk (below_step (by repeat (first | (with_reducible first | exact HB.out | apply below_alloc | apply pw_below_drewN | apply below_drew1) | exact HB.out)) hb); clear HO400; clear HB; have HO400 := n0_; have HO404 := n1_; have HB := n2_; clear n0_ n1_ n2_; (try clear hb); (try clear hb2); (try clear hk); (try clear hi); (try clear ho0)) | ((with_reducible refine gate_callee (f := 14) rfl ?_); refine goesL_ (some 60) rfl rfl Try.func14 (by kernel_rfl) rfl #[.string a0, .agg #[.int .i64 a1, .int .i64 a3]] rfl (by (try simp only [List.map_toArray, List.map_cons, List.map_nil]); first | done | rfl | (simp only [List.length_drop, List.length_take]; rfl)) ?_; (with_reducible refine (lines_Of.calls a0 a1 a3 t406 t409 _ A15.out).mono ?_); rintro e w25 ⟨v407, rfl, ho0, hb⟩; refine ⟨_, rfl, ?_⟩; have n0_ := Aside0.mk (Kd.R_elder' (by (with_reducible repeat (first | apply Kd.R_alloc | apply Kd.R_drewN | apply Kd.R_drew)); exact HO400.out) (Kd.R_base ho0) hb); have n1_ := Aside0.mk (Kd.R_elder' (by (with_reducible repeat (first | apply Kd.R_alloc | apply Kd.R_drewN | apply Kd.R_drew)); exact HO404.out) (Kd.R_base ho0) hb); have n2_ := Aside0.mk (Kd.R_lower (Kd.R_new' (Kd.R_new' ho0 (Kd.R_lt (by (with_reducible repeat (first | apply Kd.R_alloc | apply Kd.R_drewN | apply Kd.R_drew)); exact HO400.out))) (Kd.R_lt (by (with_reducible repeat (first | apply Kd.R_alloc | apply Kd.R_drewN | apply Kd.R_drew)); exact HO404.out))) (below_size (by repeat (first | (with_reducible first | exact HB.out | apply below_alloc | apply pw_below_drewN | apply below_drew1) | exact HB.out)))); have n3_ := Aside0.mk (below_step (by repeat (first | (with_reducible first | exact HB.out | apply below_alloc | apply pw_below_drewN | apply below_drew1) | exact HB.out)) hb); clear HO400; clear HO404; clear HB; have HO400 := n0_; have HO404 := n1_; have HO408 := n2_; have HB := n3_; clear n0_ n1_ n2_ n3_; (try clear hb); (try clear hb2); (try clear hk); (try clear hi); (try clear ho0); obtain ⟨Ao27, co27, eo27⟩ := Kd.R_slice HO404.out; subst eo27) | ((with_reducible refine gate_builtin (b := .append) (xs := #[.tmp 74, .tmp 75]) rfl ?_); (try (refine gate_guard (by rfl) ?_; dsimp only)); at_builtin; refine Kd.R_append_rows Kd.string (w0 := w) w.heap.size rfl (.tmp 74) (.tmp 75) 34 9 (.string ⟨#[]⟩) 16 rfl Try.underlying34 info9 rfl (by decide) (by omega) v399 t398 t402 _ _ _ (fun k_ => some k_ ≠ (.slice Ao27 t402.length co27 : Value).ownBlock ∧ some k_ ≠ (v407 : Value).ownBlock) (fun _ => False) rfl rfl ?aO ?aR (fun _ _ h => h) (fun _ h => h.elim) ?aF ?aB ?aS ?aL ?_; (case aR => repeat (first | exact (Kd.R_reads' HO404.out).2.2 | (with_reducible refine Kd.C_alloc ?_ _) | (with_reducible refine Kd.C_drewN ?_ _) | (with_reducible refine Kd.C_drew ?_))); (case aB => exact (by repeat (first | (with_reducible first | exact HB.out | apply below_alloc | apply pw_below_drewN | apply below_drew1) | exact HB.out))); (case aF => exact (fun k_ hk => ⟨Kd.fresh' (Kd.R_lt (by (with_reducible repeat (first | apply Kd.R_alloc | apply Kd.R_drewN | apply Kd.R_drew)); exact HO404.out)) k_ hk, Kd.fresh' (Kd.R_lt (by (with_reducible repeat (first | apply Kd.R_alloc | apply Kd.R_drewN | apply Kd.R_drew)); exact HO408.out)) k_ hk⟩)); (case aO => exact (by (with_reducible repeat (first | apply Kd.R_alloc | apply Kd.R_drewN | apply Kd.R_drew)); exact Kd.R_mono HO400.out (fun _ hk => ⟨hk.1.2, hk.2⟩))); (case aS => exact (below_size (by repeat (first | (with_reducible first | exact HB.out | apply below_alloc | apply pw_below_drewN | apply below_drew1) | exact HB.out)))); (case aL => have := LMc19.out; omega); intro v411 w26 ho hb hg hat; rw [← Ny410.out] at ho; have n0_ := Aside0.mk (Kd.R_after (ok := (fun k_ => some k_ ≠ (v407 : Value).ownBlock)) (by (with_reducible repeat (first | apply Kd.R_alloc | apply Kd.R_drewN | apply Kd.R_drew)); exact Kd.R_mono HO404.out (fun _ hk => ⟨hk.2, hk.1.2⟩)) hg hat); have n1_ := Aside0.mk (Kd.R_after (ok := (fun k_ => some k_ ≠ (.slice Ao27 t402.length co27 : Value).ownBlock)) (by (with_reducible repeat (first | apply Kd.R_alloc | apply Kd.R_drewN | apply Kd.R_drew)); exact Kd.R_mono HO408.out (fun _ hk => ⟨hk.2, hk.1.2⟩)) hg hat); have n2_ := Aside0.mk (hb); have n3_ := Aside0.mk (ho); clear HO404; clear HO408; clear HB; clear HO400; have HO404 := n0_; have HO408 := n1_; have HB := n2_; have HO412 := n3_; clear n0_ n1_ n2_ n3_; clear ho hb hg hat; obtain ⟨Ao28, co28, eo28⟩ := Kd.R_slice HO412.out; subst eo28; obtain ⟨Ao29, co29, eo29⟩ := Kd.R_slice HO408.out; subst eo29) | (go_at_call 16; (with_reducible refine (winnowlaw13_sameTexts.calls kj4 _ _ y410 _ _ t406 true _ ?side1 ?side2 ?side3 ?side4 A20.out).mono ?_); (case side1 => repeat (first | exact (Kd.R_reads' HO412.out).2.2 | (with_reducible refine Kd.C_alloc ?_ _) | (with_reducible refine Kd.C_drewN ?_ _) | (with_reducible refine Kd.C_drew ?_))); (case side2 => exact (Kd.R_reads' HO412.out).2.1); (case side3 => repeat (first | exact (Kd.R_reads' HO408.out).2.2 | (with_reducible refine Kd.C_alloc ?_ _) | (with_reducible refine Kd.C_drewN ?_ _) | (with_reducible refine Kd.C_drew ?_))); (case side4 => exact (Kd.R_reads' HO408.out).2.1); rintro e w' ⟨rfl, ⟨nd, rfl⟩⟩) | (go_at_call 27; (with_reducible refine (winnowlaw13_works.calls  t414 _ A22.out).mono ?_); rintro e w30 ⟨rfl, hb⟩; have n0_ := Aside0.mk (Kd.R_below (by (with_reducible repeat (first | apply Kd.R_alloc | apply Kd.R_drewN | apply Kd.R_drew)); exact HO404.out) hb); have n1_ := Aside0.mk (Kd.R_below (by (with_reducible repeat (first | apply Kd.R_alloc | apply Kd.R_drewN | apply Kd.R_drew)); exact HO408.out) hb); have n2_ := Aside0.mk (Kd.R_below (by (with_reducible repeat (first | apply Kd.R_alloc | apply Kd.R_drewN | apply Kd.R_drew)); exact HO412.out) hb); have n3_ := Aside0.mk (below_step (by repeat (first | (with_reducible first | exact HB.out | apply below_alloc | apply pw_below_drewN | apply below_drew1) | exact HB.out)) hb); clear HO404; clear HO408; clear HO412; clear HB; have HO404 := n0_; have HO408 := n1_; have HO412 := n2_; have HB := n3_; clear n0_ n1_ n2_ n3_; (try clear hb); (try clear hb2); (try clear hk); (try clear hi)))
                  go_ret
                  exact ⟨by first | rfl | (simp [errW_none, errW_some] <;> rfl) | (simp [*, errW_none, errW_some] <;> rfl), by repeat (first | (with_reducible first | exact HB.out | apply below_alloc | apply pw_below_drewN | apply below_drew1) | exact HB.out)⟩
                · replace c21 := Bool.eq_false_iff.mpr c21
                  subst c21
                  have H1 : (some false) = some r := by rw [if_neg (show ¬ (false = true) by decide)] at H; exact H
                  clear H
                  have H := H1
                  clear H1
                  obtain rfl := Option.some.inj H
                  go_wp2_with (first | ((with_reducible refine gate_callee (f := 14) rfl ?_); refine goesL_ (some 44) rfl rfl Try.func14 (by kernel_rfl) rfl #[.string a0, .agg #[.int .i64 a1, .int .i64 a2]] rfl (by (try simp only [List.map_toArray, List.map_cons, List.map_nil]); first | done | rfl | (simp only [List.length_drop, List.length_take]; rfl)) ?_; (with_reducible refine (lines_Of.calls a0 a1 a2 t398 t401 _ A13.out).mono ?_); rintro e w31 ⟨v399, rfl, ho0, hb⟩; refine ⟨_, rfl, ?_⟩; have n0_ := Aside0.mk (Kd.R_lower ho0 (below_size (by repeat (first | (with_reducible first | exact HB.out | apply below_alloc | apply pw_below_drewN | apply below_drew1) | exact HB.out)))); have n1_ := Aside0.mk (below_step (by repeat (first | (with_reducible first | exact HB.out | apply below_alloc | apply pw_below_drewN | apply below_drew1) | exact HB.out)) hb); clear HB; have HO400 := n0_; have HB := n1_; clear n0_ n1_; (try clear hb); (try clear hb2); (try clear hk); (try clear hi); (try clear ho0)) | ((with_reducible refine gate_callee (f := 14) rfl ?_); refine goesL_ (some 52) rfl rfl Try.func14 (by kernel_rfl) rfl #[.string a0, .agg #[.int .i64 a2, .int .i64 a3]] rfl (by (try simp only [List.map_toArray, List.map_cons, List.map_nil]); first | done | rfl | (simp only [List.length_drop, List.length_take]; rfl)) ?_; (with_reducible refine (lines_Of.calls a0 a2 a3 t402 t405 _ A14.out).mono ?_); rintro e w32 ⟨v403, rfl, ho0, hb⟩; refine ⟨_, rfl, ?_⟩; have n0_ := Aside0.mk (Kd.R_elder' (by (with_reducible repeat (first | apply Kd.R_alloc | apply Kd.R_drewN | apply Kd.R_drew)); exact HO400.out) (Kd.R_base ho0) hb); have n1_ := Aside0.mk (Kd.R_lower (Kd.R_new' ho0 (Kd.R_lt (by (with_reducible repeat (first | apply Kd.R_alloc | apply Kd.R_drewN | apply Kd.R_drew)); exact HO400.out))) (below_size (by repeat (first | (with_reducible first | exact HB.out | apply below_alloc | apply pw_below_drewN | apply below_drew1) | exact HB.out)))); have n2_ := Aside0.mk (below_step (by repeat (first | (with_reducible first | exact HB.out | apply below_alloc | apply pw_below_drewN | apply below_drew1) | exact HB.out)) hb); clear HO400; clear HB; have HO400 := n0_; have HO404 := n1_; have HB := n2_; clear n0_ n1_ n2_; (try clear hb); (try clear hb2); (try clear hk); (try clear hi); (try clear ho0)) | ((with_reducible refine gate_callee (f := 14) rfl ?_); refine goesL_ (some 60) rfl rfl Try.func14 (by kernel_rfl) rfl #[.string a0, .agg #[.int .i64 a1, .int .i64 a3]] rfl (by (try simp only [List.map_toArray, List.map_cons, List.map_nil]); first | done | rfl | (simp only [List.length_drop, List.length_take]; rfl)) ?_; (with_reducible refine (lines_Of.calls a0 a1 a3 t406 t409 _ A15.out).mono ?_); rintro e w33 ⟨v407, rfl, ho0, hb⟩; refine ⟨_, rfl, ?_⟩; have n0_ := Aside0.mk (Kd.R_elder' (by (with_reducible repeat (first | apply Kd.R_alloc | apply Kd.R_drewN | apply Kd.R_drew)); exact HO400.out) (Kd.R_base ho0) hb); have n1_ := Aside0.mk (Kd.R_elder' (by (with_reducible repeat (first | apply Kd.R_alloc | apply Kd.R_drewN | apply Kd.R_drew)); exact HO404.out) (Kd.R_base ho0) hb); have n2_ := Aside0.mk (Kd.R_lower (Kd.R_new' (Kd.R_new' ho0 (Kd.R_lt (by (with_reducible repeat (first | apply Kd.R_alloc | apply Kd.R_drewN | apply Kd.R_drew)); exact HO400.out))) (Kd.R_lt (by (with_reducible repeat (first | apply Kd.R_alloc | apply Kd.R_drewN | apply Kd.R_drew)); exact HO404.out))) (below_size (by repeat (first | (with_reducible first | exact HB.out | apply below_alloc | apply pw_below_drewN | apply below_drew1) | exact HB.out)))); have n3_ := Aside0.mk (below_step (by repeat (first | (with_reducible first | exact HB.out | apply below_alloc | apply pw_below_drewN | apply below_drew1) | exact HB.out)) hb); clear HO400; clear HO404; clear HB; have HO400 := n0_; have HO404 := n1_; have HO408 := n2_; have HB := n3_; clear n0_ n1_ n2_ n3_; (try clear hb); (try clear hb2); (try clear hk); (try clear hi); (try clear ho0); obtain ⟨Ao35, co35, eo35⟩ := Kd.R_slice HO404.out; subst eo35) | ((with_reducible refine gate_builtin (b := .append) (xs := #[.tmp 74, .tmp 75]) rfl ?_); (try (refine gate_guard (by rfl) ?_; dsimp only)); at_builtin; refine Kd.R_append_rows Kd.string (w0 := w) w.heap.size rfl (.tmp 74) (.tmp 75) 34 9 (.string ⟨#[]⟩) 16 rfl Try.underlying34 info9 rfl (by decide) (by omega) v399 t398 t402 _ _ _ (fun k_ => some k_ ≠ (.slice Ao35 t402.length co35 : Value).ownBlock ∧ some k_ ≠ (v407 : Value).ownBlock) (fun _ => False) rfl rfl ?aO ?aR (fun _ _ h => h) (fun _ h => h.elim) ?aF ?aB ?aS ?aL ?_; (case aR => repeat (first | exact (Kd.R_reads' HO404.out).2.2 | (with_reducible refine Kd.C_alloc ?_ _) | (with_reducible refine Kd.C_drewN ?_ _) | (with_reducible refine Kd.C_drew ?_))); (case aB => exact (by repeat (first | (with_reducible first | exact HB.out | apply below_alloc | apply pw_below_drewN | apply below_drew1) | exact HB.out))); (case aF => exact (fun k_ hk => ⟨Kd.fresh' (Kd.R_lt (by (with_reducible repeat (first | apply Kd.R_alloc | apply Kd.R_drewN | apply Kd.R_drew)); exact HO404.out)) k_ hk, Kd.fresh' (Kd.R_lt (by (with_reducible repeat (first | apply Kd.R_alloc | apply Kd.R_drewN | apply Kd.R_drew)); exact HO408.out)) k_ hk⟩)); (case aO => exact (by (with_reducible repeat (first | apply Kd.R_alloc | apply Kd.R_drewN | apply Kd.R_drew)); exact Kd.R_mono HO400.out (fun _ hk => ⟨hk.1.2, hk.2⟩))); (case aS => exact (below_size (by repeat (first | (with_reducible first | exact HB.out | apply below_alloc | apply pw_below_drewN | apply below_drew1) | exact HB.out)))); (case aL => have := LMc19.out; omega); intro v411 w34 ho hb hg hat; rw [← Ny410.out] at ho; have n0_ := Aside0.mk (Kd.R_after (ok := (fun k_ => some k_ ≠ (v407 : Value).ownBlock)) (by (with_reducible repeat (first | apply Kd.R_alloc | apply Kd.R_drewN | apply Kd.R_drew)); exact Kd.R_mono HO404.out (fun _ hk => ⟨hk.2, hk.1.2⟩)) hg hat); have n1_ := Aside0.mk (Kd.R_after (ok := (fun k_ => some k_ ≠ (.slice Ao35 t402.length co35 : Value).ownBlock)) (by (with_reducible repeat (first | apply Kd.R_alloc | apply Kd.R_drewN | apply Kd.R_drew)); exact Kd.R_mono HO408.out (fun _ hk => ⟨hk.2, hk.1.2⟩)) hg hat); have n2_ := Aside0.mk (hb); have n3_ := Aside0.mk (ho); clear HO404; clear HO408; clear HB; clear HO400; have HO404 := n0_; have HO408 := n1_; have HB := n2_; have HO412 := n3_; clear n0_ n1_ n2_ n3_; clear ho hb hg hat; obtain ⟨Ao36, co36, eo36⟩ := Kd.R_slice HO412.out; subst eo36; obtain ⟨Ao37, co37, eo37⟩ := Kd.R_slice HO408.out; subst eo37) | (go_at_call 16; (with_reducible refine (winnowlaw13_sameTexts.calls kj4 _ _ y410 _ _ t406 false _ ?side1 ?side2 ?side3 ?side4 A20.out).mono ?_); (case side1 => repeat (first | exact (Kd.R_reads' HO412.out).2.2 | (with_reducible refine Kd.C_alloc ?_ _) | (with_reducible refine Kd.C_drewN ?_ _) | (with_reducible refine Kd.C_drew ?_))); (case side2 => exact (Kd.R_reads' HO412.out).2.1); (case side3 => repeat (first | exact (Kd.R_reads' HO408.out).2.2 | (with_reducible refine Kd.C_alloc ?_ _) | (with_reducible refine Kd.C_drewN ?_ _) | (with_reducible refine Kd.C_drew ?_))); (case side4 => exact (Kd.R_reads' HO408.out).2.1); rintro e w' ⟨rfl, ⟨nd, rfl⟩⟩))
                  go_ret
                  exact ⟨by first | rfl | (simp [errW_none, errW_some] <;> rfl) | (simp [*, errW_none, errW_some] <;> rfl), by repeat (first | (with_reducible first | exact HB.out | apply below_alloc | apply pw_below_drewN | apply below_drew1) | exact HB.out)⟩
              · rw [if_neg c19] at H
                exact absurd H (by simp)
            · rw [if_neg c18] at H
              have c18b0 : (t409 == 0) = false := beq_eq_false_iff_ne.mpr c18
              have c18b1 : (t409 != 0) = true := bne_iff_ne.mpr c18
              obtain rfl := Option.some.inj H
              go_wp2_with (first | ((with_reducible refine gate_callee (f := 14) rfl ?_); refine goesL_ (some 44) rfl rfl Try.func14 (by kernel_rfl) rfl #[.string a0, .agg #[.int .i64 a1, .int .i64 a2]] rfl (by (try simp only [List.map_toArray, List.map_cons, List.map_nil]); first | done | rfl | (simp only [List.length_drop, List.length_take]; rfl)) ?_; (with_reducible refine (lines_Of.calls a0 a1 a2 t398 t401 _ A13.out).mono ?_); rintro e w38 ⟨v399, rfl, ho0, hb⟩; refine ⟨_, rfl, ?_⟩; have n0_ := Aside0.mk (Kd.R_lower ho0 (below_size (by repeat (first | (with_reducible first | exact HB.out | apply below_alloc | apply pw_below_drewN | apply below_drew1) | exact HB.out)))); have n1_ := Aside0.mk (below_step (by repeat (first | (with_reducible first | exact HB.out | apply below_alloc | apply pw_below_drewN | apply below_drew1) | exact HB.out)) hb); clear HB; have HO400 := n0_; have HB := n1_; clear n0_ n1_; (try clear hb); (try clear hb2); (try clear hk); (try clear hi); (try clear ho0)) | ((with_reducible refine gate_callee (f := 14) rfl ?_); refine goesL_ (some 52) rfl rfl Try.func14 (by kernel_rfl) rfl #[.string a0, .agg #[.int .i64 a2, .int .i64 a3]] rfl (by (try simp only [List.map_toArray, List.map_cons, List.map_nil]); first | done | rfl | (simp only [List.length_drop, List.length_take]; rfl)) ?_; (with_reducible refine (lines_Of.calls a0 a2 a3 t402 t405 _ A14.out).mono ?_); rintro e w39 ⟨v403, rfl, ho0, hb⟩; refine ⟨_, rfl, ?_⟩; have n0_ := Aside0.mk (Kd.R_elder' (by (with_reducible repeat (first | apply Kd.R_alloc | apply Kd.R_drewN | apply Kd.R_drew)); exact HO400.out) (Kd.R_base ho0) hb); have n1_ := Aside0.mk (Kd.R_lower (Kd.R_new' ho0 (Kd.R_lt (by (with_reducible repeat (first | apply Kd.R_alloc | apply Kd.R_drewN | apply Kd.R_drew)); exact HO400.out))) (below_size (by repeat (first | (with_reducible first | exact HB.out | apply below_alloc | apply pw_below_drewN | apply below_drew1) | exact HB.out)))); have n2_ := Aside0.mk (below_step (by repeat (first | (with_reducible first | exact HB.out | apply below_alloc | apply pw_below_drewN | apply below_drew1) | exact HB.out)) hb); clear HO400; clear HB; have HO400 := n0_; have HO404 := n1_; have HB := n2_; clear n0_ n1_ n2_; (try clear hb); (try clear hb2); (try clear hk); (try clear hi); (try clear ho0)) | ((with_reducible refine gate_callee (f := 14) rfl ?_); refine goesL_ (some 60) rfl rfl Try.func14 (by kernel_rfl) rfl #[.string a0, .agg #[.int .i64 a1, .int .i64 a3]] rfl (by (try simp only [List.map_toArray, List.map_cons, List.map_nil]); first | done | rfl | (simp only [List.length_drop, List.length_take]; rfl)) ?_; (with_reducible refine (lines_Of.calls a0 a1 a3 t406 t409 _ A15.out).mono ?_); rintro e w40 ⟨v407, rfl, ho0, hb⟩; refine ⟨_, rfl, ?_⟩; have n0_ := Aside0.mk (Kd.R_elder' (by (with_reducible repeat (first | apply Kd.R_alloc | apply Kd.R_drewN | apply Kd.R_drew)); exact HO400.out) (Kd.R_base ho0) hb); have n1_ := Aside0.mk (Kd.R_elder' (by (with_reducible repeat (first | apply Kd.R_alloc | apply Kd.R_drewN | apply Kd.R_drew)); exact HO404.out) (Kd.R_base ho0) hb); have n2_ := Aside0.mk (Kd.R_lower (Kd.R_new' (Kd.R_new' ho0 (Kd.R_lt (by (with_reducible repeat (first | apply Kd.R_alloc | apply Kd.R_drewN | apply Kd.R_drew)); exact HO400.out))) (Kd.R_lt (by (with_reducible repeat (first | apply Kd.R_alloc | apply Kd.R_drewN | apply Kd.R_drew)); exact HO404.out))) (below_size (by repeat (first | (with_reducible first | exact HB.out | apply below_alloc | apply pw_below_drewN | apply below_drew1) | exact HB.out)))); have n3_ := Aside0.mk (below_step (by repeat (first | (with_reducible first | exact HB.out | apply below_alloc | apply pw_below_drewN | apply below_drew1) | exact HB.out)) hb); clear HO400; clear HO404; clear HB; have HO400 := n0_; have HO404 := n1_; have HO408 := n2_; have HB := n3_; clear n0_ n1_ n2_ n3_; (try clear hb); (try clear hb2); (try clear hk); (try clear hi); (try clear ho0)))
              go_ret
              exact ⟨by first | rfl | (simp [errW_none, errW_some] <;> rfl) | (simp [*, errW_none, errW_some] <;> rfl), by repeat (first | (with_reducible first | exact HB.out | apply below_alloc | apply pw_below_drewN | apply below_drew1) | exact HB.out)⟩
          · rw [if_neg c17] at H
            have c17b0 : (t405 == 0) = false := beq_eq_false_iff_ne.mpr c17
            have c17b1 : (t405 != 0) = true := bne_iff_ne.mpr c17
            obtain rfl := Option.some.inj H
            go_wp2_with (first | ((with_reducible refine gate_callee (f := 14) rfl ?_); refine goesL_ (some 44) rfl rfl Try.func14 (by kernel_rfl) rfl #[.string a0, .agg #[.int .i64 a1, .int .i64 a2]] rfl (by (try simp only [List.map_toArray, List.map_cons, List.map_nil]); first | done | rfl | (simp only [List.length_drop, List.length_take]; rfl)) ?_; (with_reducible refine (lines_Of.calls a0 a1 a2 t398 t401 _ A13.out).mono ?_); rintro e w41 ⟨v399, rfl, ho0, hb⟩; refine ⟨_, rfl, ?_⟩; have n0_ := Aside0.mk (Kd.R_lower ho0 (below_size (by repeat (first | (with_reducible first | exact HB.out | apply below_alloc | apply pw_below_drewN | apply below_drew1) | exact HB.out)))); have n1_ := Aside0.mk (below_step (by repeat (first | (with_reducible first | exact HB.out | apply below_alloc | apply pw_below_drewN | apply below_drew1) | exact HB.out)) hb); clear HB; have HO400 := n0_; have HB := n1_; clear n0_ n1_; (try clear hb); (try clear hb2); (try clear hk); (try clear hi); (try clear ho0)) | ((with_reducible refine gate_callee (f := 14) rfl ?_); refine goesL_ (some 52) rfl rfl Try.func14 (by kernel_rfl) rfl #[.string a0, .agg #[.int .i64 a2, .int .i64 a3]] rfl (by (try simp only [List.map_toArray, List.map_cons, List.map_nil]); first | done | rfl | (simp only [List.length_drop, List.length_take]; rfl)) ?_; (with_reducible refine (lines_Of.calls a0 a2 a3 t402 t405 _ A14.out).mono ?_); rintro e w42 ⟨v403, rfl, ho0, hb⟩; refine ⟨_, rfl, ?_⟩; have n0_ := Aside0.mk (Kd.R_elder' (by (with_reducible repeat (first | apply Kd.R_alloc | apply Kd.R_drewN | apply Kd.R_drew)); exact HO400.out) (Kd.R_base ho0) hb); have n1_ := Aside0.mk (Kd.R_lower (Kd.R_new' ho0 (Kd.R_lt (by (with_reducible repeat (first | apply Kd.R_alloc | apply Kd.R_drewN | apply Kd.R_drew)); exact HO400.out))) (below_size (by repeat (first | (with_reducible first | exact HB.out | apply below_alloc | apply pw_below_drewN | apply below_drew1) | exact HB.out)))); have n2_ := Aside0.mk (below_step (by repeat (first | (with_reducible first | exact HB.out | apply below_alloc | apply pw_below_drewN | apply below_drew1) | exact HB.out)) hb); clear HO400; clear HB; have HO400 := n0_; have HO404 := n1_; have HB := n2_; clear n0_ n1_ n2_; (try clear hb); (try clear hb2); (try clear hk); (try clear hi); (try clear ho0)) | ((with_reducible refine gate_callee (f := 14) rfl ?_); refine goesL_ (some 60) rfl rfl Try.func14 (by kernel_rfl) rfl #[.string a0, .agg #[.int .i64 a1, .int .i64 a3]] rfl (by (try simp only [List.map_toArray, List.map_cons, List.map_nil]); first | done | rfl | (simp only [List.length_drop, List.length_take]; rfl)) ?_; (with_reducible refine (lines_Of.calls a0 a1 a3 t406 t409 _ A15.out).mono ?_); rintro e w43 ⟨v407, rfl, ho0, hb⟩; refine ⟨_, rfl, ?_⟩; have n0_ := Aside0.mk (Kd.R_elder' (by (with_reducible repeat (first | apply Kd.R_alloc | apply Kd.R_drewN | apply Kd.R_drew)); exact HO400.out) (Kd.R_base ho0) hb); have n1_ := Aside0.mk (Kd.R_elder' (by (with_reducible repeat (first | apply Kd.R_alloc | apply Kd.R_drewN | apply Kd.R_drew)); exact HO404.out) (Kd.R_base ho0) hb); have n2_ := Aside0.mk (Kd.R_lower (Kd.R_new' (Kd.R_new' ho0 (Kd.R_lt (by (with_reducible repeat (first | apply Kd.R_alloc | apply Kd.R_drewN | apply Kd.R_drew)); exact HO400.out))) (Kd.R_lt (by (with_reducible repeat (first | apply Kd.R_alloc | apply Kd.R_drewN | apply Kd.R_drew)); exact HO404.out))) (below_size (by repeat (first | (with_reducible first | exact HB.out | apply below_alloc | apply pw_below_drewN | apply below_drew1) | exact HB.out)))); have n3_ := Aside0.mk (below_step (by repeat (first | (with_reducible first | exact HB.out | apply below_alloc | apply pw_below_drewN | apply below_drew1) | exact HB.out)) hb); clear HO400; clear HO404; clear HB; have HO400 := n0_; have HO404 := n1_; have HO408 := n2_; have HB := n3_; clear n0_ n1_ n2_ n3_; (try clear hb); (try clear hb2); (try clear hk); (try clear hi); (try clear ho0)))
            go_ret
            exact ⟨by first | rfl | (simp [errW_none, errW_some] <;> rfl) | (simp [*, errW_none, errW_some] <;> rfl), by repeat (first | (with_reducible first | exact HB.out | apply below_alloc | apply pw_below_drewN | apply below_drew1) | exact HB.out)⟩
        · rw [if_neg c16] at H
          have c16b0 : (t401 == 0) = false := beq_eq_false_iff_ne.mpr c16
          have c16b1 : (t401 != 0) = true := bne_iff_ne.mpr c16
          obtain rfl := Option.some.inj H
          go_wp2_with (first | ((with_reducible refine gate_callee (f := 14) rfl ?_); refine goesL_ (some 44) rfl rfl Try.func14 (by kernel_rfl) rfl #[.string a0, .agg #[.int .i64 a1, .int .i64 a2]] rfl (by (try simp only [List.map_toArray, List.map_cons, List.map_nil]); first | done | rfl | (simp only [List.length_drop, List.length_take]; rfl)) ?_; (with_reducible refine (lines_Of.calls a0 a1 a2 t398 t401 _ A13.out).mono ?_); rintro e w44 ⟨v399, rfl, ho0, hb⟩; refine ⟨_, rfl, ?_⟩; have n0_ := Aside0.mk (Kd.R_lower ho0 (below_size (by repeat (first | (with_reducible first | exact HB.out | apply below_alloc | apply pw_below_drewN | apply below_drew1) | exact HB.out)))); have n1_ := Aside0.mk (below_step (by repeat (first | (with_reducible first | exact HB.out | apply below_alloc | apply pw_below_drewN | apply below_drew1) | exact HB.out)) hb); clear HB; have HO400 := n0_; have HB := n1_; clear n0_ n1_; (try clear hb); (try clear hb2); (try clear hk); (try clear hi); (try clear ho0)) | ((with_reducible refine gate_callee (f := 14) rfl ?_); refine goesL_ (some 52) rfl rfl Try.func14 (by kernel_rfl) rfl #[.string a0, .agg #[.int .i64 a2, .int .i64 a3]] rfl (by (try simp only [List.map_toArray, List.map_cons, List.map_nil]); first | done | rfl | (simp only [List.length_drop, List.length_take]; rfl)) ?_; (with_reducible refine (lines_Of.calls a0 a2 a3 t402 t405 _ A14.out).mono ?_); rintro e w45 ⟨v403, rfl, ho0, hb⟩; refine ⟨_, rfl, ?_⟩; have n0_ := Aside0.mk (Kd.R_elder' (by (with_reducible repeat (first | apply Kd.R_alloc | apply Kd.R_drewN | apply Kd.R_drew)); exact HO400.out) (Kd.R_base ho0) hb); have n1_ := Aside0.mk (Kd.R_lower (Kd.R_new' ho0 (Kd.R_lt (by (with_reducible repeat (first | apply Kd.R_alloc | apply Kd.R_drewN | apply Kd.R_drew)); exact HO400.out))) (below_size (by repeat (first | (with_reducible first | exact HB.out | apply below_alloc | apply pw_below_drewN | apply below_drew1) | exact HB.out)))); have n2_ := Aside0.mk (below_step (by repeat (first | (with_reducible first | exact HB.out | apply below_alloc | apply pw_below_drewN | apply below_drew1) | exact HB.out)) hb); clear HO400; clear HB; have HO400 := n0_; have HO404 := n1_; have HB := n2_; clear n0_ n1_ n2_; (try clear hb); (try clear hb2); (try clear hk); (try clear hi); (try clear ho0)) | ((with_reducible refine gate_callee (f := 14) rfl ?_); refine goesL_ (some 60) rfl rfl Try.func14 (by kernel_rfl) rfl #[.string a0, .agg #[.int .i64 a1, .int .i64 a3]] rfl (by (try simp only [List.map_toArray, List.map_cons, List.map_nil]); first | done | rfl | (simp only [List.length_drop, List.length_take]; rfl)) ?_; (with_reducible refine (lines_Of.calls a0 a1 a3 t406 t409 _ A15.out).mono ?_); rintro e w46 ⟨v407, rfl, ho0, hb⟩; refine ⟨_, rfl, ?_⟩; have n0_ := Aside0.mk (Kd.R_elder' (by (with_reducible repeat (first | apply Kd.R_alloc | apply Kd.R_drewN | apply Kd.R_drew)); exact HO400.out) (Kd.R_base ho0) hb); have n1_ := Aside0.mk (Kd.R_elder' (by (with_reducible repeat (first | apply Kd.R_alloc | apply Kd.R_drewN | apply Kd.R_drew)); exact HO404.out) (Kd.R_base ho0) hb); have n2_ := Aside0.mk (Kd.R_lower (Kd.R_new' (Kd.R_new' ho0 (Kd.R_lt (by (with_reducible repeat (first | apply Kd.R_alloc | apply Kd.R_drewN | apply Kd.R_drew)); exact HO400.out))) (Kd.R_lt (by (with_reducible repeat (first | apply Kd.R_alloc | apply Kd.R_drewN | apply Kd.R_drew)); exact HO404.out))) (below_size (by repeat (first | (with_reducible first | exact HB.out | apply below_alloc | apply pw_below_drewN | apply below_drew1) | exact HB.out)))); have n3_ := Aside0.mk (below_step (by repeat (first | (with_reducible first | exact HB.out | apply below_alloc | apply pw_below_drewN | apply below_drew1) | exact HB.out)) hb); clear HO400; clear HO404; clear HB; have HO400 := n0_; have HO404 := n1_; have HO408 := n2_; have HB := n3_; clear n0_ n1_ n2_ n3_; (try clear hb); (try clear hb2); (try clear hk); (try clear hi); (try clear ho0)))
          go_ret
          exact ⟨by first | rfl | (simp [errW_none, errW_some] <;> rfl) | (simp [*, errW_none, errW_some] <;> rfl), by repeat (first | (with_reducible first | exact HB.out | apply below_alloc | apply pw_below_drewN | apply below_drew1) | exact HB.out)⟩

end Go.Proofs.Ytbcggfjfgoabpaa.P

end
section
/- Texts' lists: spoilt, sameTexts, in plain lists. -/
namespace Go.Proofs.Ytbcggfjfgoabpaa.P
open Go.RowKit Go.Proofs.YtbcggfjfgoabpaaW.PrintWords Go.Proofs.YtbcggfjfgoabpaaW.PrintLast
set_option linter.unusedVariables false

theorem wrapT (i : Nat) (h : i ≤ 140737488355328) : wrap64 ((i : Int) + 1) = ((i + 1 : Nat) : Int) := by unfold wrap64; omega
theorem spoilt_l1 (d : Nat) : ∀ (k i : Nat) (g : List ByteArray), i + d = 64 → g.length + d ≤ 8796093022207 → d < k → winnowlaw13_spoilt.l1 k g (i : Int) = some ((g.length + d : Nat) : Int) := by
  induction d with
  | zero =>
    intro k i g hi hg hk
    obtain ⟨k, rfl⟩ : ∃ m, k = m + 1 := ⟨k - 1, by omega⟩
    rw [winnowlaw13_spoilt.l1, if_neg (by omega), Nat.add_zero]
  | succ d ih =>
    intro k i g hi hg hk
    obtain ⟨k, rfl⟩ : ∃ m, k = m + 1 := ⟨k - 1, by omega⟩
    rw [winnowlaw13_spoilt.l1, if_pos (by omega), if_pos (by omega), wrapT i (by omega), ih k (i + 1) _ (by omega) (by rw [List.length_append, List.length_singleton]; omega) (by omega), List.length_append, List.length_singleton]
    congr 2
    omega
theorem spoilt_l0 (n : Nat) (hn : n ≤ 8796093020000) (d : Nat) : ∀ (k i : Nat) (g : List ByteArray), g.length = n → i + d = n → d + 66 < k → winnowlaw13_spoilt.l0 k g (i : Int) = some ((n + 64 : Nat) : Int) := by
  induction d with
  | zero =>
    intro k i g hg hi hk
    obtain ⟨k, rfl⟩ : ∃ m, k = m + 1 := ⟨k - 1, by omega⟩
    rw [winnowlaw13_spoilt.l0, if_neg (by omega)]
    have := spoilt_l1 64 k 0 g rfl (by omega) (by omega)
    rw [hg] at this
    exact this
  | succ d ih =>
    intro k i g hg hi hk
    obtain ⟨k, rfl⟩ : ∃ m, k = m + 1 := ⟨k - 1, by omega⟩
    rw [winnowlaw13_spoilt.l0, if_pos (by omega), if_pos (Int.natCast_nonneg i), wrapT i (by omega)]
    exact ih k (i + 1) _ (by rw [List.length_set]; exact hg) (by omega) (by omega)
theorem spoilt_eq (l : List ByteArray) (hl : l.length ≤ 8796093020000) (k : Nat) (hk : l.length + 66 < k) : winnowlaw13_spoilt.f k l = some ((l.length + 64 : Nat) : Int) := by
  unfold winnowlaw13_spoilt.f
  exact spoilt_l0 l.length hl l.length k 0 l rfl (by omega) (by omega)
theorem rdOf_nat {α : Type} (d : α) (l : List α) (i : Nat) (h : i < l.length) : rdOf d l (i : Int) = l[i] := by
  unfold rdOf
  rw [Int.toNat_natCast, List.getD_eq_getElem?_getD, List.getElem?_eq_getElem h]
  rfl
theorem toList_inj {a b : ByteArray} (h : a.toList = b.toList) : a = b := by
  rw [ByteArray.toList_eq, ByteArray.toList_eq] at h
  cases a; cases b
  simp at h
  simp [h]
theorem sameTexts_loop (a b : List ByteArray) (hl : a.length = b.length) (ha : a.length ≤ 140737488355000) (d : Nat) : ∀ (k i : Nat), i + d = a.length → d < k → winnowlaw13_sameTexts.l0 k a b (i : Int) = some (decide (a.drop i = b.drop i)) := by
  induction d with
  | zero =>
    intro k i hi hk
    obtain ⟨k, rfl⟩ : ∃ m, k = m + 1 := ⟨k - 1, by omega⟩
    rw [winnowlaw13_sameTexts.l0, if_neg (by omega), List.drop_of_length_le (by omega), List.drop_of_length_le (by omega)]
    simp
  | succ d ih =>
    intro k i hi hk
    obtain ⟨k, rfl⟩ : ∃ m, k = m + 1 := ⟨k - 1, by omega⟩
    rw [winnowlaw13_sameTexts.l0, if_pos (by omega), if_pos (Int.natCast_nonneg i), if_pos (by omega), rdOf_nat _ a i (by omega), rdOf_nat _ b i (by omega), wrapT i (by omega), List.drop_eq_getElem_cons (show i < a.length by omega), List.drop_eq_getElem_cons (show i < b.length by omega)]
    by_cases h : a[i].toList = b[i].toList
    · rw [if_pos h, ih k (i + 1) (by omega) (by omega), toList_inj h]
      congr 1
      exact decide_eq_decide.2 ⟨fun e => by rw [e], fun e => (List.cons.inj e).2⟩
    · rw [if_neg h, decide_eq_false (fun e => h (by rw [(List.cons.inj e).1]))]
theorem sameTexts_eq (a b : List ByteArray) (ha : a.length ≤ 140737488355000) (k : Nat) (hk : a.length < k) : winnowlaw13_sameTexts.f k a b = some (decide (a = b)) := by
  unfold winnowlaw13_sameTexts.f
  by_cases h : a.length = b.length
  · rw [if_pos (by omega)]
    have := sameTexts_loop a b h ha a.length k 0 (by omega) hk
    rwa [List.drop_zero, List.drop_zero] at this
  · rw [if_neg (by omega)]
    have : a ≠ b := fun e => h (by rw [e])
    simp [this]
end Go.Proofs.Ytbcggfjfgoabpaa.P

end
section
/- What follows of lines, in plain lists. -/
namespace Go.Proofs.Ytbcggfjfgoabpaa.P
open Go.RowKit Go.Proofs.YtbcggfjfgoabpaaW.PrintWords Go.Proofs.YtbcggfjfgoabpaaW.PrintLast
set_option linter.unusedVariables false

/-- the lines from a line's begin on: the first one, and those behind it -/
theorem lnsD_scan (t : ByteArray) (d : Nat) : ∀ (s i : Nat), i + d = t.size → s ≤ i → s < t.size → (∀ j, s ≤ j → j < i → bt t (j : Int) ≠ 10) →
    ∃ e rest, lnsD t d s i = (s, e) :: rest ∧ s ≤ e ∧ e ≤ t.size ∧ (∀ j, s ≤ j → j < e → bt t (j : Int) ≠ 10) ∧ ((e < t.size ∧ bt t (e : Int) = 10 ∧ rest = lnsD t (t.size - (e + 1)) (e + 1) (e + 1)) ∨ (e = t.size ∧ rest = [])) := by
  induction d with
  | zero =>
    intro s i hi hs hlt hn
    refine ⟨t.size, [], ?_, by omega, Nat.le_refl _, fun j h1 h2 => hn j h1 (by omega), .inr ⟨rfl, rfl⟩⟩
    unfold lnsD
    rw [if_pos hlt]
  | succ d ih =>
    intro s i hi hs hlt hn
    by_cases h : bt t (i : Int) = 10
    · refine ⟨i, lnsD t d (i + 1) (i + 1), ?_, hs, by omega, hn, .inl ⟨by omega, h, ?_⟩⟩
      · rw [lnsD, if_pos h]
      · rw [show t.size - (i + 1) = d by omega]
    · obtain ⟨e, rest, h1, h2⟩ := ih s (i + 1) (by omega) (by omega) hlt (fun j a b => by
        by_cases e : j = i
        · subst e; exact h
        · exact hn j a (by omega))
      exact ⟨e, rest, by rw [lnsD, if_neg h]; exact h1, h2⟩
theorem lnsD_first (t : ByteArray) (s : Nat) (hlt : s < t.size) : ∃ e rest, lnsD t (t.size - s) s s = (s, e) :: rest ∧ s ≤ e ∧ e ≤ t.size ∧ (∀ j, s ≤ j → j < e → bt t (j : Int) ≠ 10) ∧ ((e < t.size ∧ bt t (e : Int) = 10 ∧ rest = lnsD t (t.size - (e + 1)) (e + 1) (e + 1)) ∨ (e = t.size ∧ rest = [])) :=
  lnsD_scan t (t.size - s) s s (by omega) (Nat.le_refl _) hlt (fun j h1 h2 => absurd h1 (by omega))
theorem lnsD_last (t : ByteArray) : lnsD t (t.size - t.size) t.size t.size = [] := by
  rw [Nat.sub_self, lnsD, if_neg (by omega)]
/-- they rise -/
theorem lnsD_rise (t : ByteArray) (d : Nat) : ∀ s i, i + d = t.size → s ≤ i → (lnsD t d s i).Pairwise (fun p q => p.1 < q.1) := by
  induction d with
  | zero =>
    intro s i _ _
    unfold lnsD
    split
    · exact List.pairwise_singleton _ _
    · exact List.Pairwise.nil
  | succ d ih =>
    intro s i hi hs
    unfold lnsD
    split
    · rw [List.pairwise_cons]
      exact ⟨fun q hq => by have := (lnsD_in t d (i + 1) (i + 1) (by omega) (Nat.le_refl _) q hq).1; show s < q.1; omega, ih (i + 1) (i + 1) (by omega) (Nat.le_refl _)⟩
    · exact ih s (i + 1) (by omega) (by omega)
theorem lns_rise (t : ByteArray) : (lns t).Pairwise (fun p q => p.1 < q.1) := lnsD_rise t t.size 0 0 (by omega) (Nat.le_refl _)
theorem within_iff (a b : Int) (p : Nat × Nat) : within a b p = true ↔ a ≤ (p.1 : Int) ∧ (p.1 : Int) < b := by
  unfold within
  simp
theorem filter_touch (l : List (Nat × Nat)) (hl : l.Pairwise (fun p q => p.1 < q.1)) (a b c : Int) (h1 : a ≤ b) (h2 : b ≤ c) : l.filter (within a b) ++ l.filter (within b c) = l.filter (within a c) := by
  induction l with
  | nil => rfl
  | cons p l ih =>
    rw [List.pairwise_cons] at hl
    have ih := ih hl.2
    rw [List.filter_cons, List.filter_cons, List.filter_cons]
    by_cases w1 : within a b p = true
    · have w := (within_iff a b p).1 w1
      have w2 : ¬ within b c p = true := fun h => by have := (within_iff b c p).1 h; omega
      have w3 : within a c p = true := (within_iff a c p).2 (by omega)
      rw [if_pos w1, if_neg w2, if_pos w3, List.cons_append, ih]
    · rw [if_neg w1]
      by_cases w2 : within b c p = true
      · have w := (within_iff b c p).1 w2
        have w3 : within a c p = true := (within_iff a c p).2 (by omega)
        rw [if_pos w2, if_pos w3]
        have e : l.filter (within a b) = [] := by
          rw [List.filter_eq_nil_iff]
          intro q hq h
          have := (within_iff a b q).1 h
          have := hl.1 q hq
          omega
        rw [e, List.nil_append] at ih
        rw [e, List.nil_append, ih]
      · rw [if_neg w2]
        have w3 : ¬ within a c p = true := fun h => by
          have := (within_iff a c p).1 h
          by_cases h5 : (p.1 : Int) < b
          · exact w1 ((within_iff a b p).2 ⟨this.1, h5⟩)
          · exact w2 ((within_iff b c p).2 ⟨by omega, this.2⟩)
        rw [if_neg w3, ih]
theorem bt_extract (t : ByteArray) (s e j : Nat) (he : e ≤ t.size) (hj : s + j < e) : bt (t.extract s e) (j : Int) = bt t ((s + j : Nat) : Int) := by
  unfold bt
  rw [dif_pos (by rw [Int.toNat_natCast, ByteArray.size_extract]; omega), dif_pos (by rw [Int.toNat_natCast]; omega)]
  congr 1
  congr 1
  simp only [Int.toNat_natCast]
  exact ByteArray.getElem_extract ..
theorem lnT_size (t : ByteArray) (s e : Nat) (h : s ≤ e) (he : e ≤ t.size) : (lnT t (s, e)).size = e - s := by
  unfold lnT
  rw [ByteArray.size_extract]
  dsimp only
  omega
theorem works_eq : winnowlaw13_works.f = some true := by
  have h1 : placeOf 6 3 = 3 := by decide
  have h2 : cutL 6 [3] = ([⟨0, 3⟩, ⟨3, 6⟩], 0) := by
    unfold cutL
    rw [if_neg (by simp), if_neg (by decide), List.map_singleton, h1]
    have h0 : sortI [3] = [3] := by simp [sortI]
    rw [h0]
    rfl
  have h3 : lines_Splits.f ⟨#[97, 98, 10, 99, 100, 10]⟩ [3] = some ([⟨0, ⟨#[97, 98, 10]⟩⟩, ⟨3, ⟨#[99, 100, 10]⟩⟩], 0) := by
    unfold lines_Splits.f splitsL
    rw [if_pos (by decide)]
    have h4 : cutL (((⟨#[97, 98, 10, 99, 100, 10]⟩ : ByteArray).size : Nat) : Int) [3] = ([⟨0, 3⟩, ⟨3, 6⟩], 0) := h2
    rw [h4]
    rfl
  unfold winnowlaw13_works.f
  rw [h3]
  simp [rd_T23, ByteArray.toList_eq]
end Go.Proofs.Ytbcggfjfgoabpaa.P

end
