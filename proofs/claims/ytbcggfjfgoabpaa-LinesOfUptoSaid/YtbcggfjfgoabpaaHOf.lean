/- lines.Of: contract by hand. -/
import Derived.Test.YtbcggfjfgoabpaaHLines
namespace Go.Proofs.Ytbcggfjfgoabpaa.P
open Go.RowKit Go.Shelf Go.Proofs.YtbcggfjfgoabpaaW.PrintWords Go.Proofs.YtbcggfjfgoabpaaW.PrintLast
attribute [local go_sem] Oper.semAt_some
set_option linter.unusedVariables false
set_option linter.unusedSimpArgs false

/-- the lines that begin within -/
def inP (t : ByteArray) (a b : Int) (pre : List (Ln t)) : List Value := ((pre.map Subtype.val).filter (within a b)).map (fun p => Value.string (lnT t p))
theorem inP_length {t : ByteArray} {a b : Int} (pre : List (Ln t)) : (inP t a b pre).length ≤ pre.length := by
  unfold inP
  rw [List.length_map]
  exact Nat.le_trans (List.length_filter_le _ _) (Nat.le_of_eq (List.length_map ..))
theorem inP_hit {t : ByteArray} {a b : Int} (pre : List (Ln t)) (x : Ln t) (h1 : a ≤ (x.1.1 : Int)) (h2 : (x.1.1 : Int) < b) : inP t a b (pre ++ [x]) = inP t a b pre ++ [.string (lnT t x.1)] := by
  have hw : within a b x.1 = true := by unfold within; rw [decide_eq_true h1, decide_eq_true h2]; rfl
  simp [inP, hw]
theorem inP_miss {t : ByteArray} {a b : Int} (pre : List (Ln t)) (x : Ln t) (h : ¬ (a ≤ (x.1.1 : Int) ∧ (x.1.1 : Int) < b)) : inP t a b (pre ++ [x]) = inP t a b pre := by
  have hw : within a b x.1 = false := by
    unfold within
    by_cases h1 : a ≤ (x.1.1 : Int)
    · rw [decide_eq_true h1, decide_eq_false (fun h2 => h ⟨h1, h2⟩)]; rfl
    · rw [decide_eq_false h1]; rfl
  simp [inP, hw]
/-- the piece's box -/
def PBox (W : World) (B : Nat) (a b : Int) : Prop := W.heap[B]? = some (.cells #[.int .i64 a, .int .i64 b] 33 (0, 0))
theorem PBox.cells {W : World} {B : Nat} {a b : Int} (h : PBox W B a b) : W.cell? ⟨B, 0, none⟩ = some (.int .i64 a) ∧ W.cell? ⟨B, 1, none⟩ = some (.int .i64 b) := by
  constructor <;> simp [World.cell?, show W.heap[B]? = _ from h]
theorem pbox_own {β : Type} (B : Nat) (a b : Int) : Own (fun (_ : β) W => PBox W B a b) := by
  intro s X Y row hs hg hr
  refine (hg.block B (Array.getElem?_eq_some_iff.1 hs).1 (fun e => ?_)).trans hs
  obtain ⟨o, ho, hc⟩ := hr B e.symm
  rw [show X.heap[B]? = _ from hs] at ho
  cases ho
  cases hc
set_option maxRecDepth 100000 in
set_option maxHeartbeats 4000000 in
theorem Of_in (t : ByteArray) (a b : Int) (w : World) (ht : t.size ≤ 4194304) :
    CallsIn Fence.wide 9 Try.prog 14 #[.string t, .agg #[.int .i64 a, .int .i64 b]] w fun e W' => ∃ v, e = .returned (.tuple #[v, .int .i64 (ofL t a b).2]) ∧ W'.ownsRow w.heap.size 9 1 v (ofL t a b).1.length ((ofL t a b).1.map Value.string) ∧ Below w.heap.size w W' := by
  obtain ⟨i0, hi, hz0, hz1, hz2⟩ := info_parts info9p
  have hro : Fence.wide.round = none := rfl
  have hN : (lns t).length ≤ t.size + 1 := lnsD_length t t.size 0 0
  have ht2 : (t.size : Int) ≤ 4194304 := by omega
  by_cases hbad : a < 0 ∨ a > b ∨ b > (t.size : Int)
  · have hof : ofL t a b = ([], 3) := by unfold ofL; rw [if_neg (by omega), if_pos hbad]
    rw [hof]
    refine callsIn_of_wp_marks Try.func14 rfl trivial ?_ hro
    simp only [Try.ntmps14, List.size_toArray, List.length_cons, List.length_nil, Nat.reduceAdd, Nat.reduceSub, Array.replicate_succ, Array.replicate_zero, List.push_toArray, List.append_toArray, List.nil_append, List.cons_append]
    have hB0 : Below w.heap.size w ((w.alloc (.cells #[.string t] 9)).alloc (.cells #[.int .i64 a, .int .i64 b] 33)) := ((Below.refl _ w).alloc (Nat.le_refl _) _).alloc (by simp) _
    rcases (show a < 0 ∨ (0 ≤ a ∧ b < a) ∨ (0 ≤ a ∧ a ≤ b ∧ (t.size : Int) < b) by omega) with h | ⟨h, h2⟩ | ⟨h, h2, h3⟩
    · clear hbad hof
      gi_wp2
      exact ⟨_, results_tmp2 rfl _ _ _, _, rfl, World.ownsRow_nil _ _ _ _, hB0⟩
    · clear hbad hof
      gi_wp2
      exact ⟨_, results_tmp2 rfl _ _ _, _, rfl, World.ownsRow_nil _ _ _ _, hB0⟩
    · clear hbad hof
      gi_wp2
      exact ⟨_, results_tmp2 rfl _ _ _, _, rfl, World.ownsRow_nil _ _ _ _, hB0⟩
  · have hof : ofL t a b = (((lns t).filter (within a b)).map (lnT t), 0) := by unfold ofL; rw [if_neg (by omega), if_neg hbad]
    rw [hof]
    have k1 : 0 ≤ a := by omega
    have k2 : a ≤ b := by omega
    have k3 : b ≤ (t.size : Int) := by omega
    clear hbad hof
    refine callsIn_of_wp_marks Try.func14 rfl trivial ?_ hro
    simp only [Try.ntmps14, List.size_toArray, List.length_cons, List.length_nil, Nat.reduceAdd, Nat.reduceSub, Array.replicate_succ, Array.replicate_zero, List.push_toArray, List.append_toArray, List.nil_append, List.cons_append]
    gi_wp2_with (refine ⟨trivial, ?_⟩; gi_at_call 29; refine (ends_in Fence.wide 8 trivial hro _ _).mono ?_; rintro e w' ⟨rfl, rfl⟩)
    have b1 := (((Boxed.new w 9 (.string t)).alloc (.cells #[.int .i64 a, .int .i64 b] 33)).alloc (.cells #[.slice none 0 0] 34)).alloc (.cells #[.string t] 9)
    have bp : PBox ((w.alloc (.cells #[.string t] 9)).alloc (.cells #[.int .i64 a, .int .i64 b] 33)) (w.heap.size + 1) a b := by
      have := World.alloc_heap_new (w.alloc (.cells #[.string t] 9)) (.cells #[.int .i64 a, .int .i64 b] 33)
      rwa [World.size_alloc] at this
    have bp2 : PBox ((((w.alloc (.cells #[.string t] 9)).alloc (.cells #[.int .i64 a, .int .i64 b] 33)).alloc (.cells #[.slice none 0 0] 34)).alloc (.cells #[.string t] 9)) (w.heap.size + 1) a b :=
      (Below.heap_alloc _ _ _ (by simp)).trans ((Below.heap_alloc _ _ _ (by simp)).trans bp)
    have b2 := (Boxed.new ((w.alloc (.cells #[.string t] 9)).alloc (.cells #[.int .i64 a, .int .i64 b] 33)) 34 (.slice none 0 0)).alloc (.cells #[.string t] 9)
    have b3 := Boxed.new (((w.alloc (.cells #[.string t] 9)).alloc (.cells #[.int .i64 a, .int .i64 b] 33)).alloc (.cells #[.slice none 0 0] 34)) 9 (.string t)
    have hB0 : Below w.heap.size w ((((w.alloc (.cells #[.string t] 9)).alloc (.cells #[.int .i64 a, .int .i64 b] 33)).alloc (.cells #[.slice none 0 0] 34)).alloc (.cells #[.string t] 9)) := ((((Below.refl _ w).alloc (Nat.le_refl _) _).alloc (by simp) _).alloc (by simp; omega) _).alloc (by simp; omega) _
    rw [World.size_alloc, World.size_alloc] at b2
    rw [World.size_alloc, World.size_alloc, World.size_alloc] at b3
    have hsz : ((((w.alloc (.cells #[.string t] 9)).alloc (.cells #[.int .i64 a, .int .i64 b] 33)).alloc (.cells #[.slice none 0 0] 34)).alloc (.cells #[.string t] 9)).heap.size = w.heap.size + 1 + 1 + 1 + 1 := by simp
    clear bp
    generalize (((w.alloc (.cells #[.string t] 9)).alloc (.cells #[.int .i64 a, .int .i64 b] 33)).alloc (.cells #[.slice none 0 0] 34)).alloc (.cells #[.string t] 9) = W0 at b1 bp2 b2 b3 hB0 hsz ⊢
    refine wpIn_rangeFunc_ownG hro (by decide) (gf := 31) (lb := #[.pointer (some ⟨w.heap.size + 1 + 1 + 1, 0, none⟩)]) rfl trivial (enters_of Try.func31 (by kernel_rfl) rfl)
      (ends_stops Fence.wide 8 trivial hro (by decide) (w.heap.size + 1 + 1 + 1) t (by omega) W0 b3) EK.t EK.b (Below.refl _ _) (fun _ => rfl)
      (fun pre W => (Held (w.heap.size + 1 + 1) (w.heap.size + 1 + 1 + 1 + 1) (inP t a b pre) W ∧ Boxed W w.heap.size 9 (.string t) ∧ PBox W (w.heap.size + 1) a b) ∧ Below w.heap.size w W ∧ w.heap.size + 1 + 1 + 1 + 1 ≤ W.heap.size)
      (fun _ _ _ => False)
      (OwnFrom.and (OwnFrom.and ((held_own _ _ _).from _) (OwnFrom.and ((boxed_own _ _ _).from _) ((pbox_own _ _ _).from _))) (OwnFrom.and (ownFrom_below (Nat.le_refl _) (by omega)) ((size_own _).from _)))
      (fun _ _ _ _ _ hs _ _ => hs)
      ⟨⟨⟨_, b2, World.ownsRow_nil _ _ _ _⟩, b1, bp2⟩, hB0, Nat.le_of_eq hsz.symm⟩
      (fun x => { tmps := #[.string t, .agg #[.int .i64 a, .int .i64 b], .pointer (some ⟨w.heap.size, 0, none⟩), .pointer (some ⟨w.heap.size + 1, 0, none⟩), .slice none 0 0, .int .i64 0, .pointer (some ⟨w.heap.size + 1 + 1, 0, none⟩), .int .i64 (x.1.1 : Int), .int .i64 (x.1.2 : Int), .bool (decide (4194304 < (t.size : Int))), .string t, .int .i64 (t.size : Int), .bool (decide (4194304 < (t.size : Int))), .bool (decide (a < 0) || decide (b < a) || decide ((t.size : Int) < b)), .pointer (some ⟨w.heap.size + 1, 0, none⟩), .int .i64 a, .bool (decide (a < 0)), .bool (decide (a < 0)), .pointer (some ⟨w.heap.size + 1, 0, none⟩), .int .i64 a, .pointer (some ⟨w.heap.size + 1, 1, none⟩), .int .i64 b, .bool (decide (b < a)), .bool (decide (a < 0) || decide (b < a)), .bool (decide (a < 0) || decide (b < a)), .pointer (some ⟨w.heap.size + 1, 1, none⟩), .int .i64 b, .string t, .int .i64 (t.size : Int), .bool (decide ((t.size : Int) < b)), .bool (decide (a < 0) || decide (b < a) || decide ((t.size : Int) < b)), .string t, .func (.func 31) #[] #[.pointer (some ⟨w.heap.size + 1 + 1 + 1, 0, none⟩)], .int .i64 (x.1.1 : Int), .int .i64 (x.1.2 : Int), undef, undef, undef, undef, undef, undef, undef, undef, undef, undef, undef, undef, undef, undef, undef, undef, undef, undef], defers := [] }) ?assign ?body ?done ?stop
    case assign =>
      intro l x W K hK
      dsimp only [lnV]
      gi_wp2
      exact hK
    case body =>
      rintro l pre x W ⟨⟨⟨v, hv, hrow⟩, hbt, hpb⟩, hB, hsW⟩ hlt
      obtain ⟨xs, hxs⟩ : ∃ xs, xs = inP t a b pre := ⟨_, rfl⟩
      rw [← hxs] at hrow
      have HXE := Aside0.mk hxs.symm
      have HXS := Aside0.mk (show xs.length + 1 ≤ 4194305 by have := inP_length (a := a) (b := b) pre; rw [hxs]; omega)
      clear hxs
      have HV := Aside0.mk hv
      have HR := Aside0.mk hrow
      have HBT := Aside0.mk hbt
      have HPB := Aside0.mk hpb
      have HB := Aside0.mk hB
      have hx2 := x.2
      have hhit := inP_hit (a := a) (b := b) pre x
      have hmiss := inP_miss (a := a) (b := b) pre x
      obtain ⟨⟨x1, x2⟩, hxx⟩ := x
      dsimp only at hx2 hhit hmiss ⊢
      obtain ⟨hx0, hx2⟩ := hx2
      obtain ⟨hp1, hp2⟩ := hpb.cells
      have hc1 := hbt.cell
      have hc2 := hv.cell
      have hc3 := (hv.alloc (.cells #[.string (t.extract x1 x2)] 9)).cell
      have i1 : (x1 : Int) ≤ (x2 : Int) := by omega
      have i2 : (x2 : Int) ≤ (t.size : Int) := by omega
      have HSZ0 := Aside0.mk (show w.heap.size + 1 + 1 + 1 + 1 ≤ W.heap.size from hsW)
      have HSZ := Aside0.mk (show w.heap.size + 1 + 1 + 1 + 1 ≤ (W.alloc (.cells #[.string (t.extract x1 x2)] 9)).heap.size by have := HSZ0.out; simp; omega)
      have HHIT := Aside0.mk hhit
      have HMISS := Aside0.mk hmiss
      clear hv hrow hbt hB hpb hsW hhit hmiss hlt k1 k2 k3 hN ht ht2 hsz b1 bp2 b2 b3 hB0
      rcases (show (x1 : Int) < a ∨ (a ≤ (x1 : Int) ∧ b ≤ (x1 : Int)) ∨ (a ≤ (x1 : Int) ∧ (x1 : Int) < b) by omega) with g1 | ⟨g1, g2⟩ | ⟨g1, g2⟩
      · gi_wp2
        refine ⟨KeepsFrom.refl _ _, EK.refl _ _ _, ⟨⟨_, HV.out, ?_⟩, HBT.out, HPB.out⟩, HB.out, HSZ0.out⟩
        rw [HMISS.out (by omega), HXE.out]
        exact HR.out
      · gi_wp2
        refine ⟨KeepsFrom.refl _ _, EK.refl _ _ _, ⟨⟨_, HV.out, ?_⟩, HBT.out, HPB.out⟩, HB.out, HSZ0.out⟩
        rw [HMISS.out (by omega), HXE.out]
        exact HR.out
      · gi_wp2
        refine wpIn_region_any (by kernel_rfl) (any_round (by kernel_rfl) (fun ⟨_, _, h⟩ => h) _ _ _ _ ?_)
        change wpAny _ _ _ _ _ _ _ (World.drew _)
        refine wpAny_take (i := 2) (v := .int .i64 (x1 : Int)) rfl (by kernel_rfl) (by kernel_rfl) (by kernel_rfl) (fun _ _ _ h => h) (Or.inl ⟨by rfl, by (intro w; go_simp)⟩) ?_
        change wpAny _ _ _ _ _ _ (Act.put _ (some 47) _) _
        try simp only [Act.put, List.setIfInBounds_toArray, List.set_cons_zero, List.set_cons_succ]
        refine wpAny_take (i := 3) (v := .int .i64 (x2 : Int)) rfl (by kernel_rfl) (by kernel_rfl) (by kernel_rfl) (fun _ _ _ h => h) (Or.inl ⟨by rfl, by (intro w; go_simp)⟩) ?_
        change wpAny _ _ _ _ _ _ (Act.put _ (some 48) _) _
        try simp only [Act.put, List.setIfInBounds_toArray, List.set_cons_zero, List.set_cons_succ]
        refine wpAny_ready (rs := [0, 1]) (by kernel_rfl) (by simp) ?_
        refine AllReady.cons rfl (fun K hK => ?_) (AllReady.cons rfl (fun K hK => ?_) AllReady.nil)
        · go_simp
          refine hK _ _ ?_
          clear hK K
          try simp only [Act.put, List.setIfInBounds_toArray, List.set_cons_zero, List.set_cons_succ]
          refine wpAny_ready (rs := [1]) (by kernel_rfl) (by simp) ?_
          refine AllReady.cons rfl (fun K hK => ?_) AllReady.nil
          go_simp
          refine hK _ _ ?_
          clear hK K
          try simp only [Act.put, List.setIfInBounds_toArray, List.set_cons_zero, List.set_cons_succ]
          refine wpAny_take (i := 4) (v := .string (t.extract x1 x2)) rfl (by kernel_rfl) (by kernel_rfl) (by kernel_rfl) (fun _ _ _ h => h) (Or.inl ⟨by rfl, by (intro w; go_simp)⟩) ?_
          change wpAny _ _ _ _ _ _ (Act.put _ (some 49) _) _
          try simp only [Act.put, List.setIfInBounds_toArray, List.set_cons_zero, List.set_cons_succ]
          refine wpAny_ready (rs := [5]) (by kernel_rfl) (by simp) ?_
          refine AllReady.cons rfl (fun K hK => ?_) AllReady.nil
          go_simp
          refine hK _ _ ?_
          clear hK K
          try simp only [Act.put, List.setIfInBounds_toArray, List.set_cons_zero, List.set_cons_succ]
          refine wpAny_ready (rs := [6]) (by kernel_rfl) (by simp) ?_
          refine AllReady.cons rfl (fun K hK => ?_) AllReady.nil
          rw [if_pos (by rfl)]
          refine wp_append_own _ (.tmp 45) (.tmp 50) 34 rfl (w.heap.size + 1 + 1 + 1 + 1) 9 i0 (.string ⟨#[]⟩) 1 16 Try.underlying34 hi hz0 hz1 hz2 rfl (by decide) v xs.length xs rfl (HR.out.alloc _) ⟨W.heap.size, 0, none⟩ 1 1 [.string (t.extract x1 x2)] rfl rfl (cell_one_new _ _ _) (by simp [Value.oneCell']) (by have := HXS.out; simp only [maxLen]; omega) (by have := HXS.out; omega) (HSZ.out) ?_
          intro v' w1 hown' hgrow _
          obtain ⟨g', cap', rfl⟩ := ownsRow_succ hown'
          have HA := Aside0.mk (boxed_append (n₀ := w.heap.size) HV.out HR.out (by omega) (by omega) (by have := HSZ0.out; omega) hown' ⟨hgrow.os, hgrow.tape, hgrow.output, hgrow.size, hgrow.block⟩)
          have hd1 := HA.out.1.cell
          have hd2 := HA.out.1.frozen
          clear hown' hgrow
          refine hK _ _ ?_
          clear hK K
          change wpAny _ _ _ _ _ _ (Act.put _ (some 51) _) _
          try simp only [Act.put, List.setIfInBounds_toArray, List.set_cons_zero, List.set_cons_succ]
          refine wpAny_ready (rs := [7]) (by kernel_rfl) (by simp) ?_
          refine AllReady.cons rfl (fun K hK => ?_) AllReady.nil
          go_simp
          refine hK _ _ ?_
          clear hK K
          refine wpAny_done (by kernel_rfl) ?_ _
          obtain ⟨a1, a2, a3, a4, a5, a6⟩ := HA.out
          refine ⟨a4.from _, ⟨fun hb => (a6 _ (by omega) (by omega)).trans hb, a4.walks⟩, ⟨⟨_, a2, ?_⟩, (a6 _ (by omega) (by omega)).trans HBT.out, (a6 _ (by omega) (by omega)).trans HPB.out⟩, HB.out.trans a5, Nat.le_trans HSZ0.out a4.size⟩
          rw [HHIT.out g1 g2, HXE.out]
          simpa [lnT] using a3
        · go_simp
          refine hK _ _ ?_
          clear hK K
          try simp only [Act.put, List.setIfInBounds_toArray, List.set_cons_zero, List.set_cons_succ]
          refine wpAny_take (i := 4) (v := .string (t.extract x1 x2)) rfl (by kernel_rfl) (by kernel_rfl) (by kernel_rfl) (fun _ _ _ h => h) (Or.inl ⟨by rfl, by (intro w; go_simp)⟩) ?_
          change wpAny _ _ _ _ _ _ (Act.put _ (some 49) _) _
          try simp only [Act.put, List.setIfInBounds_toArray, List.set_cons_zero, List.set_cons_succ]
          refine wpAny_ready (rs := [0, 5]) (by kernel_rfl) (by simp) ?_
          refine AllReady.cons rfl (fun K hK => ?_) (AllReady.cons rfl (fun K hK => ?_) AllReady.nil)
          · go_simp
            refine hK _ _ ?_
            clear hK K
            try simp only [Act.put, List.setIfInBounds_toArray, List.set_cons_zero, List.set_cons_succ]
            refine wpAny_ready (rs := [5]) (by kernel_rfl) (by simp) ?_
            refine AllReady.cons rfl (fun K hK => ?_) AllReady.nil
            go_simp
            refine hK _ _ ?_
            clear hK K
            try simp only [Act.put, List.setIfInBounds_toArray, List.set_cons_zero, List.set_cons_succ]
            refine wpAny_ready (rs := [6]) (by kernel_rfl) (by simp) ?_
            refine AllReady.cons rfl (fun K hK => ?_) AllReady.nil
            rw [if_pos (by rfl)]
            refine wp_append_own _ (.tmp 45) (.tmp 50) 34 rfl (w.heap.size + 1 + 1 + 1 + 1) 9 i0 (.string ⟨#[]⟩) 1 16 Try.underlying34 hi hz0 hz1 hz2 rfl (by decide) v xs.length xs rfl (HR.out.alloc _) ⟨W.heap.size, 0, none⟩ 1 1 [.string (t.extract x1 x2)] rfl rfl (cell_one_new _ _ _) (by simp [Value.oneCell']) (by have := HXS.out; simp only [maxLen]; omega) (by have := HXS.out; omega) (HSZ.out) ?_
            intro v' w1 hown' hgrow _
            obtain ⟨g', cap', rfl⟩ := ownsRow_succ hown'
            have HA := Aside0.mk (boxed_append (n₀ := w.heap.size) HV.out HR.out (by omega) (by omega) (by have := HSZ0.out; omega) hown' ⟨hgrow.os, hgrow.tape, hgrow.output, hgrow.size, hgrow.block⟩)
            have hd1 := HA.out.1.cell
            have hd2 := HA.out.1.frozen
            clear hown' hgrow
            refine hK _ _ ?_
            clear hK K
            change wpAny _ _ _ _ _ _ (Act.put _ (some 51) _) _
            try simp only [Act.put, List.setIfInBounds_toArray, List.set_cons_zero, List.set_cons_succ]
            refine wpAny_ready (rs := [7]) (by kernel_rfl) (by simp) ?_
            refine AllReady.cons rfl (fun K hK => ?_) AllReady.nil
            go_simp
            refine hK _ _ ?_
            clear hK K
            refine wpAny_done (by kernel_rfl) ?_ _
            obtain ⟨a1, a2, a3, a4, a5, a6⟩ := HA.out
            refine ⟨a4.from _, ⟨fun hb => (a6 _ (by omega) (by omega)).trans hb, a4.walks⟩, ⟨⟨_, a2, ?_⟩, (a6 _ (by omega) (by omega)).trans HBT.out, (a6 _ (by omega) (by omega)).trans HPB.out⟩, HB.out.trans a5, Nat.le_trans HSZ0.out a4.size⟩
            rw [HHIT.out g1 g2, HXE.out]
            simpa [lnT] using a3
          · go_simp
            refine hK _ _ ?_
            clear hK K
            try simp only [Act.put, List.setIfInBounds_toArray, List.set_cons_zero, List.set_cons_succ]
            refine wpAny_ready (rs := [0]) (by kernel_rfl) (by simp) ?_
            refine AllReady.cons rfl (fun K hK => ?_) AllReady.nil
            go_simp
            refine hK _ _ ?_
            clear hK K
            try simp only [Act.put, List.setIfInBounds_toArray, List.set_cons_zero, List.set_cons_succ]
            refine wpAny_ready (rs := [6]) (by kernel_rfl) (by simp) ?_
            refine AllReady.cons rfl (fun K hK => ?_) AllReady.nil
            rw [if_pos (by rfl)]
            refine wp_append_own _ (.tmp 45) (.tmp 50) 34 rfl (w.heap.size + 1 + 1 + 1 + 1) 9 i0 (.string ⟨#[]⟩) 1 16 Try.underlying34 hi hz0 hz1 hz2 rfl (by decide) v xs.length xs rfl (HR.out.alloc _) ⟨W.heap.size, 0, none⟩ 1 1 [.string (t.extract x1 x2)] rfl rfl (cell_one_new _ _ _) (by simp [Value.oneCell']) (by have := HXS.out; simp only [maxLen]; omega) (by have := HXS.out; omega) (HSZ.out) ?_
            intro v' w1 hown' hgrow _
            obtain ⟨g', cap', rfl⟩ := ownsRow_succ hown'
            have HA := Aside0.mk (boxed_append (n₀ := w.heap.size) HV.out HR.out (by omega) (by omega) (by have := HSZ0.out; omega) hown' ⟨hgrow.os, hgrow.tape, hgrow.output, hgrow.size, hgrow.block⟩)
            have hd1 := HA.out.1.cell
            have hd2 := HA.out.1.frozen
            clear hown' hgrow
            refine hK _ _ ?_
            clear hK K
            change wpAny _ _ _ _ _ _ (Act.put _ (some 51) _) _
            try simp only [Act.put, List.setIfInBounds_toArray, List.set_cons_zero, List.set_cons_succ]
            refine wpAny_ready (rs := [7]) (by kernel_rfl) (by simp) ?_
            refine AllReady.cons rfl (fun K hK => ?_) AllReady.nil
            go_simp
            refine hK _ _ ?_
            clear hK K
            refine wpAny_done (by kernel_rfl) ?_ _
            obtain ⟨a1, a2, a3, a4, a5, a6⟩ := HA.out
            refine ⟨a4.from _, ⟨fun hb => (a6 _ (by omega) (by omega)).trans hb, a4.walks⟩, ⟨⟨_, a2, ?_⟩, (a6 _ (by omega) (by omega)).trans HBT.out, (a6 _ (by omega) (by omega)).trans HPB.out⟩, HB.out.trans a5, Nat.le_trans HSZ0.out a4.size⟩
            rw [HHIT.out g1 g2, HXE.out]
            simpa [lnT] using a3
    case done =>
      rintro D ys W hD hys ⟨⟨⟨v, hv, hrow⟩, hbt, hpb⟩, hB, hsW⟩ hK
      have hc := hv.cell
      gi_wp2
      refine ⟨by simp, .inl ⟨_, _, rfl, run_takeDeferred hK, ?_⟩⟩
      refine ⟨_, results_tmp2 rfl _ _ _, v, rfl, ?_, hB.trans (belowK_b (w := w) (Nat.le_refl _) W D _ _ (by omega) hK rfl rfl)⟩
      have h9 := ownsRow_putObj hrow (.deferred none) hK rfl
      have e1 : inP t a b ys = (((lns t).filter (within a b)).map (lnT t)).map Value.string := by rw [inP, hys, List.map_map]; rfl
      have e2 : (inP t a b ys).length = (((lns t).filter (within a b)).map (lnT t)).length := by rw [e1, List.length_map]
      rw [e2, e1] at h9
      exact ownsRow_lower h9 (by omega)
    case stop =>
      rintro D c pre W _ _ h _
      exact h.elim
/-- what Of answers -/
def lines_Of.f (t : ByteArray) (a b : Int) : Option (List ByteArray × Int) := if t.size ≤ 4194304 then some (ofL t a b) else none
theorem lines_Of.calls (a0 : ByteArray) (a1_0 : Int) (a1_1 : Int) (r1 : List ByteArray) (r2 : Int) (w : World) (h : lines_Of.f a0 a1_0 a1_1 = some (r1, r2)) :
    Calls Try.prog 14 #[.string a0, .agg #[.int .i64 a1_0, .int .i64 a1_1]] w fun e w' => ∃ v0_ : Value, e = .returned (.tuple #[v0_, .int .i64 r2]) ∧ Kd.R Kd.string 9 w' w.heap.size (fun _ => True) v0_ r1 ∧ Below w.heap.size w w' := by
  unfold lines_Of.f at h
  by_cases ht : a0.size ≤ 4194304
  · rw [if_pos ht] at h
    injection h with h
    refine (callsIn_wide.1 (Of_in a0 a1_0 a1_1 w ht)).mono ?_
    rw [h]
    rintro e W' ⟨v, rfl, ho, hB⟩
    exact ⟨v, rfl, R_of_owns _ ho, hB⟩
  · rw [if_neg ht] at h
    cases h
end Go.Proofs.Ytbcggfjfgoabpaa.P
