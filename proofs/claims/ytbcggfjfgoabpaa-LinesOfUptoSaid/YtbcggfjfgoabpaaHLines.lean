/- lines.Lines: contract by hand. -/
import Derived.Test.YtbcggfjfgoabpaaHEnds
import Derived.Test.YtbcggfjfgoabpaaRoundAny
namespace Go.Proofs.Ytbcggfjfgoabpaa.P
open Go.RowKit Go.Shelf Go.Proofs.YtbcggfjfgoabpaaW.PrintWords Go.Proofs.YtbcggfjfgoabpaaW.PrintLast
attribute [local go_sem] Oper.semAt_some
set_option linter.unusedVariables false
set_option linter.unusedSimpArgs false

theorem info9p : (Try.prog.info? 9).map (fun i => (i.zero, i.size, i.bytes)) = some (some (.string ⟨#[]⟩), 1, 16) := by kernel_rfl
/-- strings in a row of one's own -/
def strs (t : ByteArray) (pre : List (Ln t)) : List Value := pre.map (fun x => Value.string (lnT t x.1))
theorem strs_snoc {t : ByteArray} (pre : List (Ln t)) (x : Ln t) : strs t (pre ++ [x]) = strs t pre ++ [.string (lnT t x.1)] := by simp [strs]
theorem strs_length {t : ByteArray} (pre : List (Ln t)) : (strs t pre).length = pre.length := List.length_map ..
theorem R_of_owns {W : World} {base : Nat} {v : Value} (l : List ByteArray) (h : W.ownsRow base 9 1 v l.length (l.map Value.string)) : Kd.R Kd.string 9 W base (fun _ => True) v l :=
  ⟨fun _ _ => trivial, l.map Value.string, h, by rw [List.length_map, show Kd.string.sz = 1 from rfl, Nat.mul_one], fun j p hp => by
    show ((l.map Value.string).drop (j * 1)).take 1 = [Value.string p]
    obtain ⟨hj, rfl⟩ := List.getElem?_eq_some_iff.1 hp
    rw [Nat.mul_one, List.drop_eq_getElem_cons (by rw [List.length_map]; exact hj), List.getElem_map]
    rfl⟩
theorem row_far {W : World} {base e size k : Nat} {v : Value} {xs : List Value} (hr : W.ownsRow base e size v k xs) {B : Nat} (hB : B < base) : some B ≠ v.ownBlock := by
  rcases hr.2 with ⟨rfl, _⟩ | ⟨g, cap, cur, rfl, hg, _⟩
  · simp [Value.ownBlock]
  · intro e'
    obtain rfl : B = g := by simpa [Value.ownBlock] using e'
    omega
/-- an append into a boxed variable, the boxes lying below the row -/
theorem boxed_append {W w1 : World} {n₀ b0 Bl e size k m : Nat} {t : TypeId} {v v' : Value} {xs ys : List Value} {tmp : Obj} (hv : Boxed W Bl t v) (hrow : W.ownsRow b0 e size v k xs) (hn : n₀ ≤ Bl) (hl : Bl < b0) (hb : b0 ≤ W.heap.size)
    (hown' : w1.ownsRow b0 e size v' m ys) (hgrow : (W.alloc tmp).grownBy w1 v.ownBlock) :
    Boxed w1 Bl t v ∧ Boxed (w1.setCell ⟨Bl, 0, none⟩ v') Bl t v' ∧ (w1.setCell ⟨Bl, 0, none⟩ v').ownsRow b0 e size v' m ys ∧ KeepsOthers W (w1.setCell ⟨Bl, 0, none⟩ v') ∧ Below n₀ W (w1.setCell ⟨Bl, 0, none⟩ v') ∧
      (∀ B : Nat, B ≠ Bl → B < b0 → (w1.setCell ⟨Bl, 0, none⟩ v').heap[B]? = W.heap[B]?) := by
  have hv1 : Boxed w1 Bl t v := (hv.alloc tmp).kept hgrow (row_far hrow hl)
  refine ⟨hv1, hv1.set v', hown'.kept (grownBy_setCell' w1 Bl v') (.inr (row_far hown' hl).symm), ?_, ?_, ?_⟩
  · refine ((KeepsOthers.alloc W tmp).trans (KeepsOthers.of_grownBy hgrow fun j o ej hj => ?_)).trans (KeepsOthers.setCell _ _ _)
    rcases (hrow.alloc tmp).2 with ⟨rfl, _⟩ | ⟨g, cap, cur, rfl, _, hgb, _⟩
    · simp [Value.ownBlock] at ej
    · obtain rfl : g = j := by simpa [Value.ownBlock] using ej
      rw [hgb] at hj; cases hj; rfl
  · refine (((Below.refl n₀ W).alloc (by omega) tmp).grown hgrow (by simp; omega) fun j ej => ?_).setCell (p := ⟨Bl, 0, none⟩) hn v'
    rcases hrow.2 with ⟨rfl, _⟩ | ⟨g, cap, cur, rfl, hb, _, _⟩
    · simp [Value.ownBlock] at ej
    · obtain rfl : g = j := by simpa [Value.ownBlock] using ej
      omega
  · intro B hne hB
    exact (Below.heap_setCell w1 ⟨Bl, 0, none⟩ v' B hne).trans ((hgrow.block B (by simp; omega) (row_far hrow hB)).trans (Below.heap_alloc W tmp B (by omega)))
theorem ownsRow_lower {W : World} {base base' e size k : Nat} {v : Value} {xs : List Value} (hr : W.ownsRow base e size v k xs) (hb : base' ≤ base) : W.ownsRow base' e size v k xs :=
  ⟨hr.1, hr.2.imp id (fun ⟨g, cap, cur, h1, h2, h3⟩ => ⟨g, cap, cur, h1, by omega, h3⟩)⟩
/-- the boxed variable, and what it holds -/
def Held (Bl b0 : Nat) (xs : List Value) (W : World) : Prop := ∃ v, Boxed W Bl 34 v ∧ W.ownsRow b0 9 1 v xs.length xs
theorem held_own {β : Type} (Bl b0 : Nat) (f : β → List Value) : Own (fun s W => Held Bl b0 (f s) W) := by
  have h := holdsRow_own b0 Bl 34 9 1 (fun s : β => (f s).length) f (fun _ _ => True)
  rintro s A B row ⟨v, h1, h2⟩ hg hr
  obtain ⟨v, h1, h2, _⟩ := h s A B row ⟨v, h1, h2, trivial⟩ hg hr
  exact ⟨v, h1, h2⟩
theorem size_own {β : Type} (k : Nat) : Own (fun (_ : β) W => k ≤ W.heap.size) := fun _ _ _ _ hs hg _ => Nat.le_trans hs hg.size
set_option maxRecDepth 100000 in
set_option maxHeartbeats 4000000 in
theorem Lines_in (t : ByteArray) (w : World) (ht : t.size ≤ 4194304) :
    CallsIn Fence.wide 9 Try.prog 12 #[.string t] w fun e W' => ∃ v, e = .returned v ∧ W'.ownsRow w.heap.size 9 1 v (lns t).length (((lns t).map (lnT t)).map Value.string) ∧ Below w.heap.size w W' := by
  obtain ⟨i0, hi, hz0, hz1, hz2⟩ := info_parts info9p
  have hro : Fence.wide.round = none := rfl
  have hN : (lns t).length ≤ t.size + 1 := lnsD_length t t.size 0 0
  refine callsIn_of_wp_marks Try.func12 rfl trivial ?_ hro
  simp only [Try.ntmps12, List.size_toArray, List.length_cons, List.length_nil, Nat.reduceAdd, Nat.reduceSub, Array.replicate_succ, Array.replicate_zero, List.push_toArray, List.append_toArray, List.nil_append, List.cons_append]
  gi_wp2_with (refine ⟨trivial, ?_⟩; gi_at_call 29; refine (ends_in Fence.wide 8 trivial hro _ _).mono ?_; rintro e w' ⟨rfl, rfl⟩)
  have b1 := ((Boxed.new w 9 (.string t)).alloc (.cells #[.slice none 0 0] 34)).alloc (.cells #[.string t] 9)
  have b2 := (Boxed.new (w.alloc (.cells #[.string t] 9)) 34 (.slice none 0 0)).alloc (.cells #[.string t] 9)
  have b3 := Boxed.new ((w.alloc (.cells #[.string t] 9)).alloc (.cells #[.slice none 0 0] 34)) 9 (.string t)
  have hB0 : Below w.heap.size w (((w.alloc (.cells #[.string t] 9)).alloc (.cells #[.slice none 0 0] 34)).alloc (.cells #[.string t] 9)) := (((Below.refl _ w).alloc (Nat.le_refl _) _).alloc (by simp) _).alloc (by simp; omega) _
  rw [World.size_alloc] at b2
  rw [World.size_alloc, World.size_alloc] at b3
  have hsz : (((w.alloc (.cells #[.string t] 9)).alloc (.cells #[.slice none 0 0] 34)).alloc (.cells #[.string t] 9)).heap.size = w.heap.size + 1 + 1 + 1 := by simp
  generalize ((w.alloc (.cells #[.string t] 9)).alloc (.cells #[.slice none 0 0] 34)).alloc (.cells #[.string t] 9) = W0 at b1 b2 b3 hB0 hsz ⊢
  refine wpIn_rangeFunc_ownG hro (by decide) (gf := 31) (lb := #[.pointer (some ⟨w.heap.size + 1 + 1, 0, none⟩)]) rfl trivial (enters_of Try.func31 (by kernel_rfl) rfl)
    (ends_stops Fence.wide 8 trivial hro (by decide) (w.heap.size + 1 + 1) t (by omega) W0 b3) EK.t EK.b (Below.refl _ _) (fun _ => rfl)
    (fun pre W => (Held (w.heap.size + 1) (w.heap.size + 1 + 1 + 1) (strs t pre) W ∧ Boxed W w.heap.size 9 (.string t)) ∧ Below w.heap.size w W ∧ w.heap.size + 1 + 1 + 1 ≤ W.heap.size)
    (fun _ _ _ => False)
    (OwnFrom.and (OwnFrom.and ((held_own _ _ _).from _) ((boxed_own _ _ _).from _)) (OwnFrom.and (ownFrom_below (Nat.le_refl _) (by omega)) ((size_own _).from _)))
    (fun _ _ _ _ _ hs _ _ => hs)
    ⟨⟨⟨_, b2, World.ownsRow_nil _ _ _ _⟩, b1⟩, hB0, Nat.le_of_eq hsz.symm⟩
    (fun x => { tmps := #[.string t, .pointer (some ⟨w.heap.size, 0, none⟩), .slice none 0 0, .pointer (some ⟨w.heap.size + 1, 0, none⟩), .int .i64 (x.1.1 : Int), .int .i64 (x.1.2 : Int), .string t, .func (.func 31) #[] #[.pointer (some ⟨w.heap.size + 1 + 1, 0, none⟩)], .int .i64 (x.1.1 : Int), .int .i64 (x.1.2 : Int), undef, undef, undef, undef, undef, undef, undef, undef], defers := [] }) ?assign ?body ?done ?stop
  case assign =>
    intro l x W K hK
    dsimp only [lnV]
    gi_wp2
    exact hK
  case body =>
    rintro l pre x W ⟨⟨⟨v, hv, hrow⟩, hbt⟩, hB, hsW⟩ hlt
    have hx2 := x.2
    obtain ⟨⟨x1, x2⟩, hxx⟩ := x
    dsimp only at hx2
    obtain ⟨hx0, hx2⟩ := hx2
    have hc1 := hbt.cell
    have hc2 := hv.cell
    have hc3 := (hv.alloc (.cells #[.string (t.extract x1 x2)] 9)).cell
    have i1 : (x1 : Int) ≤ (x2 : Int) := by omega
    have i2 : (x2 : Int) ≤ (t.size : Int) := by omega
    obtain ⟨xs, hxs⟩ : ∃ xs, xs = strs t pre := ⟨_, rfl⟩
    rw [← hxs] at hrow
    have HXE := Aside0.mk hxs.symm
    have HXS := Aside0.mk (show xs.length + 1 ≤ 4194305 by rw [hxs, strs_length]; omega)
    clear hxs
    have HV := Aside0.mk hv
    have HR := Aside0.mk hrow
    have HBT := Aside0.mk hbt
    have HB := Aside0.mk hB
    have HSZ0 := Aside0.mk (show w.heap.size + 1 + 1 + 1 ≤ W.heap.size from hsW)
    have HSZ := Aside0.mk (show w.heap.size + 1 + 1 + 1 ≤ (W.alloc (.cells #[.string (t.extract x1 x2)] 9)).heap.size by have := HSZ0.out; simp; omega)
    clear hv hrow hbt hB
    refine wpIn_block ?_
    refine wpIn_region_any (by kernel_rfl) (any_round (by kernel_rfl) (fun ⟨_, _, h⟩ => h) _ _ _ _ ?_)
    change wpAny _ _ _ _ _ _ _ (World.drew _)
    refine wpAny_take (i := 2) (v := .int .i64 (x1 : Int)) rfl (by kernel_rfl) (by kernel_rfl) (by kernel_rfl) (fun _ _ _ h => h) (Or.inl ⟨by rfl, by (intro w; go_simp)⟩) ?_
    change wpAny _ _ _ _ _ _ (Act.put _ (some 12) _) _
    try simp only [Act.put, List.setIfInBounds_toArray, List.set_cons_zero, List.set_cons_succ]
    refine wpAny_take (i := 3) (v := .int .i64 (x2 : Int)) rfl (by kernel_rfl) (by kernel_rfl) (by kernel_rfl) (fun _ _ _ h => h) (Or.inl ⟨by rfl, by (intro w; go_simp)⟩) ?_
    change wpAny _ _ _ _ _ _ (Act.put _ (some 13) _) _
    try simp only [Act.put, List.setIfInBounds_toArray, List.set_cons_zero, List.set_cons_succ]
    refine wpAny_ready (rs := [0, 1]) (by kernel_rfl) (by simp) ?_
    refine AllReady.cons rfl (fun K hK => ?_) (AllReady.cons rfl (fun K hK => ?_) AllReady.nil)
    · go_simp
      refine hK _ _ ?_
      clear hK K
      try simp only [Act.put, List.setIfInBounds_toArray, List.set_cons_zero, List.set_cons_succ]
      refine wpAny_ready (rs := [1]) (by kernel_rfl) (by simp) ?_
      refine AllReady.cons rfl (fun K hK => ?_) AllReady.nil
      go_simp
      refine hK _ _ ?_
      clear hK K
      try simp only [Act.put, List.setIfInBounds_toArray, List.set_cons_zero, List.set_cons_succ]
      refine wpAny_take (i := 4) (v := .string (t.extract x1 x2)) rfl (by kernel_rfl) (by kernel_rfl) (by kernel_rfl) (fun _ _ _ h => h) (Or.inl ⟨by rfl, by (intro w; go_simp)⟩) ?_
      change wpAny _ _ _ _ _ _ (Act.put _ (some 14) _) _
      try simp only [Act.put, List.setIfInBounds_toArray, List.set_cons_zero, List.set_cons_succ]
      refine wpAny_ready (rs := [5]) (by kernel_rfl) (by simp) ?_
      refine AllReady.cons rfl (fun K hK => ?_) AllReady.nil
      go_simp
      refine hK _ _ ?_
      clear hK K
      try simp only [Act.put, List.setIfInBounds_toArray, List.set_cons_zero, List.set_cons_succ]
      refine wpAny_ready (rs := [6]) (by kernel_rfl) (by simp) ?_
      refine AllReady.cons rfl (fun K hK => ?_) AllReady.nil
      rw [if_pos (by rfl)]
      refine wp_append_own _ (.tmp 10) (.tmp 15) 34 rfl (w.heap.size + 1 + 1 + 1) 9 i0 (.string ⟨#[]⟩) 1 16 Try.underlying34 hi hz0 hz1 hz2 rfl (by decide) v xs.length xs rfl (HR.out.alloc _) ⟨W.heap.size, 0, none⟩ 1 1 [.string (t.extract x1 x2)] rfl rfl (cell_one_new _ _ _) (by simp [Value.oneCell']) (by have := HXS.out; simp only [maxLen]; omega) (by have := HXS.out; omega) (HSZ.out) ?_
      intro v' w1 hown' hgrow _
      obtain ⟨g', cap', rfl⟩ := ownsRow_succ hown'
      have HA := Aside0.mk (boxed_append (n₀ := w.heap.size) HV.out HR.out (by omega) (by omega) (by have := HSZ0.out; omega) hown' ⟨hgrow.os, hgrow.tape, hgrow.output, hgrow.size, hgrow.block⟩)
      have hd1 := HA.out.1.cell
      have hd2 := HA.out.1.frozen
      clear hown' hgrow
      refine hK _ _ ?_
      clear hK K
      change wpAny _ _ _ _ _ _ (Act.put _ (some 16) _) _
      try simp only [Act.put, List.setIfInBounds_toArray, List.set_cons_zero, List.set_cons_succ]
      refine wpAny_ready (rs := [7]) (by kernel_rfl) (by simp) ?_
      refine AllReady.cons rfl (fun K hK => ?_) AllReady.nil
      go_simp
      refine hK _ _ ?_
      clear hK K
      refine wpAny_done (by kernel_rfl) ?_ _
      obtain ⟨a1, a2, a3, a4, a5, a6⟩ := HA.out
      refine ⟨a4.from _, ⟨fun hb => (a6 _ (by omega) (by omega)).trans hb, a4.walks⟩, ⟨⟨_, a2, ?_⟩, (a6 _ (by omega) (by omega)).trans HBT.out⟩, HB.out.trans a5, Nat.le_trans HSZ0.out a4.size⟩
      rw [strs_snoc, HXE.out]
      simpa [lnT] using a3
    · go_simp
      refine hK _ _ ?_
      clear hK K
      try simp only [Act.put, List.setIfInBounds_toArray, List.set_cons_zero, List.set_cons_succ]
      refine wpAny_take (i := 4) (v := .string (t.extract x1 x2)) rfl (by kernel_rfl) (by kernel_rfl) (by kernel_rfl) (fun _ _ _ h => h) (Or.inl ⟨by rfl, by (intro w; go_simp)⟩) ?_
      change wpAny _ _ _ _ _ _ (Act.put _ (some 14) _) _
      try simp only [Act.put, List.setIfInBounds_toArray, List.set_cons_zero, List.set_cons_succ]
      refine wpAny_ready (rs := [0, 5]) (by kernel_rfl) (by simp) ?_
      refine AllReady.cons rfl (fun K hK => ?_) (AllReady.cons rfl (fun K hK => ?_) AllReady.nil)
      · go_simp
        refine hK _ _ ?_
        clear hK K
        try simp only [Act.put, List.setIfInBounds_toArray, List.set_cons_zero, List.set_cons_succ]
        refine wpAny_ready (rs := [5]) (by kernel_rfl) (by simp) ?_
        refine AllReady.cons rfl (fun K hK => ?_) AllReady.nil
        go_simp
        refine hK _ _ ?_
        clear hK K
        try simp only [Act.put, List.setIfInBounds_toArray, List.set_cons_zero, List.set_cons_succ]
        refine wpAny_ready (rs := [6]) (by kernel_rfl) (by simp) ?_
        refine AllReady.cons rfl (fun K hK => ?_) AllReady.nil
        rw [if_pos (by rfl)]
        refine wp_append_own _ (.tmp 10) (.tmp 15) 34 rfl (w.heap.size + 1 + 1 + 1) 9 i0 (.string ⟨#[]⟩) 1 16 Try.underlying34 hi hz0 hz1 hz2 rfl (by decide) v xs.length xs rfl (HR.out.alloc _) ⟨W.heap.size, 0, none⟩ 1 1 [.string (t.extract x1 x2)] rfl rfl (cell_one_new _ _ _) (by simp [Value.oneCell']) (by have := HXS.out; simp only [maxLen]; omega) (by have := HXS.out; omega) (HSZ.out) ?_
        intro v' w1 hown' hgrow _
        obtain ⟨g', cap', rfl⟩ := ownsRow_succ hown'
        have HA := Aside0.mk (boxed_append (n₀ := w.heap.size) HV.out HR.out (by omega) (by omega) (by have := HSZ0.out; omega) hown' ⟨hgrow.os, hgrow.tape, hgrow.output, hgrow.size, hgrow.block⟩)
        have hd1 := HA.out.1.cell
        have hd2 := HA.out.1.frozen
        clear hown' hgrow
        refine hK _ _ ?_
        clear hK K
        change wpAny _ _ _ _ _ _ (Act.put _ (some 16) _) _
        try simp only [Act.put, List.setIfInBounds_toArray, List.set_cons_zero, List.set_cons_succ]
        refine wpAny_ready (rs := [7]) (by kernel_rfl) (by simp) ?_
        refine AllReady.cons rfl (fun K hK => ?_) AllReady.nil
        go_simp
        refine hK _ _ ?_
        clear hK K
        refine wpAny_done (by kernel_rfl) ?_ _
        obtain ⟨a1, a2, a3, a4, a5, a6⟩ := HA.out
        refine ⟨a4.from _, ⟨fun hb => (a6 _ (by omega) (by omega)).trans hb, a4.walks⟩, ⟨⟨_, a2, ?_⟩, (a6 _ (by omega) (by omega)).trans HBT.out⟩, HB.out.trans a5, Nat.le_trans HSZ0.out a4.size⟩
        rw [strs_snoc, HXE.out]
        simpa [lnT] using a3
      · go_simp
        refine hK _ _ ?_
        clear hK K
        try simp only [Act.put, List.setIfInBounds_toArray, List.set_cons_zero, List.set_cons_succ]
        refine wpAny_ready (rs := [0]) (by kernel_rfl) (by simp) ?_
        refine AllReady.cons rfl (fun K hK => ?_) AllReady.nil
        go_simp
        refine hK _ _ ?_
        clear hK K
        try simp only [Act.put, List.setIfInBounds_toArray, List.set_cons_zero, List.set_cons_succ]
        refine wpAny_ready (rs := [6]) (by kernel_rfl) (by simp) ?_
        refine AllReady.cons rfl (fun K hK => ?_) AllReady.nil
        rw [if_pos (by rfl)]
        refine wp_append_own _ (.tmp 10) (.tmp 15) 34 rfl (w.heap.size + 1 + 1 + 1) 9 i0 (.string ⟨#[]⟩) 1 16 Try.underlying34 hi hz0 hz1 hz2 rfl (by decide) v xs.length xs rfl (HR.out.alloc _) ⟨W.heap.size, 0, none⟩ 1 1 [.string (t.extract x1 x2)] rfl rfl (cell_one_new _ _ _) (by simp [Value.oneCell']) (by have := HXS.out; simp only [maxLen]; omega) (by have := HXS.out; omega) (HSZ.out) ?_
        intro v' w1 hown' hgrow _
        obtain ⟨g', cap', rfl⟩ := ownsRow_succ hown'
        have HA := Aside0.mk (boxed_append (n₀ := w.heap.size) HV.out HR.out (by omega) (by omega) (by have := HSZ0.out; omega) hown' ⟨hgrow.os, hgrow.tape, hgrow.output, hgrow.size, hgrow.block⟩)
        have hd1 := HA.out.1.cell
        have hd2 := HA.out.1.frozen
        clear hown' hgrow
        refine hK _ _ ?_
        clear hK K
        change wpAny _ _ _ _ _ _ (Act.put _ (some 16) _) _
        try simp only [Act.put, List.setIfInBounds_toArray, List.set_cons_zero, List.set_cons_succ]
        refine wpAny_ready (rs := [7]) (by kernel_rfl) (by simp) ?_
        refine AllReady.cons rfl (fun K hK => ?_) AllReady.nil
        go_simp
        refine hK _ _ ?_
        clear hK K
        refine wpAny_done (by kernel_rfl) ?_ _
        obtain ⟨a1, a2, a3, a4, a5, a6⟩ := HA.out
        refine ⟨a4.from _, ⟨fun hb => (a6 _ (by omega) (by omega)).trans hb, a4.walks⟩, ⟨⟨_, a2, ?_⟩, (a6 _ (by omega) (by omega)).trans HBT.out⟩, HB.out.trans a5, Nat.le_trans HSZ0.out a4.size⟩
        rw [strs_snoc, HXE.out]
        simpa [lnT] using a3
  case done =>
    rintro D ys W hD hys ⟨⟨⟨v, hv, hrow⟩, hbt⟩, hB, hsW⟩ hK
    have hc := hv.cell
    gi_wp2
    refine ⟨by simp, .inl ⟨_, _, rfl, run_takeDeferred hK, ?_⟩⟩
    refine ⟨_, results_tmp rfl _ _ _, v, rfl, ?_, hB.trans (belowK_b (w := w) (Nat.le_refl _) W D _ _ (by omega) hK rfl rfl)⟩
    have h9 := ownsRow_putObj hrow (.deferred none) hK rfl
    have e1 : strs t ys = ((lns t).map (lnT t)).map Value.string := by rw [← hys, List.map_map, List.map_map]; rfl
    have e2 : (strs t ys).length = (lns t).length := by rw [strs_length, ← hys, List.length_map]
    rw [e2, e1] at h9
    exact ownsRow_lower h9 (by omega)
  case stop =>
    rintro D c pre W _ _ h _
    exact h.elim
theorem map_str (l : List (Nat × Nat)) (t : ByteArray) : (l.map (lnT t)).length = l.length := List.length_map ..
/-- what Lines answers -/
def lines_Lines.f (t : ByteArray) : Option (List ByteArray) := if t.size ≤ 4194304 then some ((lns t).map (lnT t)) else none
theorem lines_Lines.calls (a0 : ByteArray) (r : List ByteArray) (w : World) (h : lines_Lines.f a0 = some r) :
    Calls Try.prog 12 #[.string a0] w fun e w' => ∃ v0_ : Value, e = .returned (v0_) ∧ Kd.R Kd.string 9 w' w.heap.size (fun _ => True) v0_ r ∧ Below w.heap.size w w' := by
  unfold lines_Lines.f at h
  by_cases ht : a0.size ≤ 4194304
  · rw [if_pos ht] at h
    injection h with h
    subst h
    refine (callsIn_wide.1 (Lines_in a0 w ht)).mono ?_
    rintro e W' ⟨v, rfl, ho, hB⟩
    refine ⟨v, rfl, R_of_owns _ ?_, hB⟩
    rw [map_str]
    exact ho
  · rw [if_neg ht] at h
    cases h
end Go.Proofs.Ytbcggfjfgoabpaa.P
