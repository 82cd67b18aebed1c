/- Several texts laid together (wip/tools/merge2.py): HBegin, HAll, HBeginF, HBegun, RunPlain, RunBegin, RunMoves, RunFew, HNotes, HMade. -/
import Derived.Test.YtponmfnegdlppaaDoorMS2
import Derived.Deep.RegionHeld3
import Derived.Test.YtponmfnegdlppaaDoorMS1
import Derived.Outline
import Derived.Deep.DeepCutAuto
section
/- ledger.Begin, by hand (printed by HBegin.gen.py). -/
namespace Go.Proofs.YtponmfnegdlppaaDoor.P
open Go.RowKit Go.Proofs.YtponmfnegdlppaaDoorW.PrintWords Go.Proofs.YtponmfnegdlppaaDoorW.PrintLast Go.Proofs.YtponmfnegdlppaaDoorW.PrintMore
set_option linter.unusedVariables false
set_option linter.unusedSimpArgs false

theorem far4 {W : World} {g : Nat} {a b c d : Value} {k o : Nat} {v : Value} (h : W.cell? ⟨k, o, none⟩ = some v) (hk : k ≠ g) :
    ((((W.setCell ⟨g, 0, none⟩ a).setCell ⟨g, 1, none⟩ b).setCell ⟨g, 2, none⟩ c).setCell ⟨g, 3, none⟩ d).cell? ⟨k, o, none⟩ = some v := by
  rw [World.cell?_setCell_far _ _ _ _ (Ne.symm hk), World.cell?_setCell_far _ _ _ _ (Ne.symm hk), World.cell?_setCell_far _ _ _ _ (Ne.symm hk), World.cell?_setCell_far _ _ _ _ (Ne.symm hk)]
  exact h

set_option maxHeartbeats 4000000 in
set_option maxRecDepth 100000 in
theorem begin_bad (t : Int) (fl : Bool) (A0 : Option Addr) (c0 : Nat) (l0 : List S38) (A1 : Option Addr) (c1 : Nat) (l1 : List S38) (k b : Int) (w : World)
    (h0 : Kd.C k38 w A0 l0.length l0) (hcap0 : l0.length ≤ c0) (h1 : Kd.C k38 w A1 l1.length l1) (hl0 : l0.length ≤ 6000000000000) (hl1 : l1.length ≤ 6000000000000) (hT : Tab w) (e : Int) (he : knownP t l0 l1 fl [⟨k, b⟩] = e) (hne : e ≠ 0) :
    Calls Tryd.prog 28 #[.agg #[.int .i64 t, .slice A0 l0.length c0, .slice A1 l1.length c1, .bool fl], .agg #[.int .i64 k, .int .i64 b]] w fun e_ w' => e_ = .returned (.tuple #[.agg #[.int .i64 0, .slice none 0 0, .slice none 0 0, .bool false], .int .i64 0, .bool false, .int .i64 e]) ∧ Below w.heap.size w w' := by
  have hl3 := lays3_of w t (.slice A0 l0.length c0) (.slice A1 l1.length c1) fl k b
  have hba : Below w.heap.size w ((w3of w t (.slice A0 l0.length c0) (.slice A1 l1.length c1) fl k b).alloc (.cells #[.int .i64 k, .int .i64 b] 29)) := below_alloc hl3.q0 _
  have hkn := known_any t fl A0 c0 l0 A1 c1 l1 (some ⟨(w3of w t (.slice A0 l0.length c0) (.slice A1 l1.length c1) fl k b).heap.size, 0, none⟩) 1 [⟨k, b⟩] ((w3of w t (.slice A0 l0.length c0) (.slice A1 l1.length c1) fl k b).alloc (.cells #[.int .i64 k, .int .i64 b] 29)) (Kd.C_below h0 hba) (Kd.C_below h1 hba) (C_one (w3of w t (.slice A0 l0.length c0) (.slice A1 l1.length c1) fl k b) k b) (by simp) hl0 hl1 (hT.below hba)
  rw [he] at hkn
  have H0 := Aside0.mk h0
  have H1 := Aside0.mk h1
  have HCP := Aside0.mk hcap0
  obtain ⟨W3, hW3⟩ : ∃ W3, (w3of w t (.slice A0 l0.length c0) (.slice A1 l1.length c1) fl k b) = W3 := ⟨_, rfl⟩
  rw [hW3] at hl3 hba hkn
  unfold w3of at hW3
  have HW3 := Aside0.mk hW3
  have HL := Aside0.mk hl3
  have HKN := Aside0.mk hkn
  have ha := below_alloc (Below.refl W3.heap.size W3) (.cells #[.int .i64 k, .int .i64 b] 29)
  have HBA := Aside0.mk ha
  clear hba hkn h0 h1 he hl3 hT hl0 hl1 ha hW3 hcap0
  have hu22 := Tryd.underlying22
  have hu29 := Tryd.underlying29
  have hu24 := Tryd.underlying24
  have hu38 := Tryd.underlying38
  have hu26 := Tryd.underlying26
  have hu85 := Tryd.underlying85
  have hz0 := HL.out.q2.c0
  have hz1 := HL.out.q2.c1
  have hz2 := HL.out.q2.c2
  have hz3 := HL.out.q2.c3
  have hy0 : W3.cell? ⟨w.heap.size + 1, 0, none⟩ = some (.int .i64 k) := (blk_cell HL.out.q3 0).trans rfl
  have hy1 : W3.cell? ⟨w.heap.size + 1, 1, none⟩ = some (.int .i64 b) := (blk_cell HL.out.q3 1).trans rfl
  have hn1 : (e != 0) = true := bne_iff_ne.2 hne
  clear hne
  go_enter Tryd.func28, Tryd.ntmps28
  go_upto_region 1 with (fail)
  rw [HW3.out]
  clear HW3
  go_wp2_with (go_at_call 54; go_must (refine HKN.out.mono ?_; rintro e_ W4 ⟨rfl, hB4⟩; have HF := Aside0.mk (HL.out.below (below_step HBA.out hB4)); clear hB4 HL HKN HBA hz0 hz1 hz2 hz3 hy0 hy1; have hc0 : W4.cell? ⟨w.heap.size + 1 + 1, 0, none⟩ = some (.int .i64 0) := (blk_cell HF.out.2.2.1 0).trans rfl; have hc1 : W4.cell? ⟨w.heap.size + 1 + 1, 1, none⟩ = some (.slice none 0 0) := (blk_cell HF.out.2.2.1 1).trans rfl; have hc2 : W4.cell? ⟨w.heap.size + 1 + 1, 2, none⟩ = some (.slice none 0 0) := (blk_cell HF.out.2.2.1 2).trans rfl; have hc3 : W4.cell? ⟨w.heap.size + 1 + 1, 3, none⟩ = some (.bool false) := (blk_cell HF.out.2.2.1 3).trans rfl; have hf0 : W4.frozen? ⟨w.heap.size + 1 + 1, 0, none⟩ = false := frozen_of_row _ _ _ _ _ HF.out.2.2.1; have hf1 : W4.frozen? ⟨w.heap.size + 1 + 1, 1, none⟩ = false := frozen_of_row _ _ _ _ _ HF.out.2.2.1; have hf2 : W4.frozen? ⟨w.heap.size + 1 + 1, 2, none⟩ = false := frozen_of_row _ _ _ _ _ HF.out.2.2.1; have hf3 : W4.frozen? ⟨w.heap.size + 1 + 1, 3, none⟩ = false := frozen_of_row _ _ _ _ _ HF.out.2.2.1))
  refine bodyPost_ret (results_list (rs := [.cell 4 24, .tmp 5, .tmp 6, .tmp 7]) rfl (by simp) (.cell (w.heap.size + 1 + 1) 24 #[.int .i64 0, .slice none 0 0, .slice none 0 0, .bool false] (0, 0) _ rfl (by refine blk_put (cs := #[.int .i64 0, .slice none 0 0, .slice none 0 0, .bool false]) ?_ 3 _ rfl; refine blk_put (cs := #[.int .i64 0, .slice none 0 0, .slice none 0 0, .bool false]) ?_ 2 _ rfl; refine blk_put (cs := #[.int .i64 0, .slice none 0 0, .slice none 0 0, .bool false]) ?_ 1 _ rfl; refine blk_put (cs := #[.int .i64 0, .slice none 0 0, .slice none 0 0, .bool false]) ?_ 0 _ rfl; exact HF.out.2.2.1) Tryd.underlying24 rfl (by kernel_rfl) (.tmp (.tmp (.tmp .nil))))) rfl ?_
  exact ⟨rfl, (((HF.out.2.2.2.1.setCell (by simp; omega) _).setCell (by simp; omega) _).setCell (by simp; omega) _).setCell (by simp; omega) _⟩

set_option maxHeartbeats 4000000 in
set_option maxRecDepth 100000 in
theorem begin_failed_map (t : Int) (A0 : Option Addr) (c0 : Nat) (l0 : List S38) (A1 : Option Addr) (c1 : Nat) (l1 : List S38) (b : Nat) (w : World)
    (h0 : Kd.C k38 w A0 l0.length l0) (hcap0 : l0.length ≤ c0) (h1 : Kd.C k38 w A1 l1.length l1) (hl0 : l0.length ≤ 6000000000000) (hl1 : l1.length ≤ 6000000000000) (hT : Tab w) (he : knownP t l0 l1 true [⟨0, b⟩] = 0) (hb : b < l0.length) :
    Calls Tryd.prog 28 #[.agg #[.int .i64 t, .slice A0 l0.length c0, .slice A1 l1.length c1, .bool true], .agg #[.int .i64 0, .int .i64 b]] w fun e_ w' => e_ = .returned (.tuple #[.agg #[.int .i64 0, .slice none 0 0, .slice none 0 0, .bool false], .int .i64 0, .bool false, .int .i64 192]) ∧ Below w.heap.size w w' := by
  have hl3 := lays3_of w t (.slice A0 l0.length c0) (.slice A1 l1.length c1) true 0 b
  have hba : Below w.heap.size w ((w3of w t (.slice A0 l0.length c0) (.slice A1 l1.length c1) true 0 b).alloc (.cells #[.int .i64 0, .int .i64 b] 29)) := below_alloc hl3.q0 _
  have hkn := known_any t true A0 c0 l0 A1 c1 l1 (some ⟨(w3of w t (.slice A0 l0.length c0) (.slice A1 l1.length c1) true 0 b).heap.size, 0, none⟩) 1 [⟨0, b⟩] ((w3of w t (.slice A0 l0.length c0) (.slice A1 l1.length c1) true 0 b).alloc (.cells #[.int .i64 0, .int .i64 b] 29)) (Kd.C_below h0 hba) (Kd.C_below h1 hba) (C_one (w3of w t (.slice A0 l0.length c0) (.slice A1 l1.length c1) true 0 b) 0 b) (by simp) hl0 hl1 (hT.below hba)
  rw [he] at hkn
  have H0 := Aside0.mk h0
  have H1 := Aside0.mk h1
  have HCP := Aside0.mk hcap0
  obtain ⟨W3, hW3⟩ : ∃ W3, (w3of w t (.slice A0 l0.length c0) (.slice A1 l1.length c1) true 0 b) = W3 := ⟨_, rfl⟩
  rw [hW3] at hl3 hba hkn
  unfold w3of at hW3
  have HW3 := Aside0.mk hW3
  have HL := Aside0.mk hl3
  have HKN := Aside0.mk hkn
  have ha := below_alloc (Below.refl W3.heap.size W3) (.cells #[.int .i64 0, .int .i64 b] 29)
  have HBA := Aside0.mk ha
  clear hba hkn h0 h1 he hl3 hT hl0 hl1 ha hW3 hcap0
  have hu22 := Tryd.underlying22
  have hu29 := Tryd.underlying29
  have hu24 := Tryd.underlying24
  have hu38 := Tryd.underlying38
  have hu26 := Tryd.underlying26
  have hu85 := Tryd.underlying85
  have hz0 := HL.out.q2.c0
  have hz1 := HL.out.q2.c1
  have hz2 := HL.out.q2.c2
  have hz3 := HL.out.q2.c3
  have hy0 : W3.cell? ⟨w.heap.size + 1, 0, none⟩ = some (.int .i64 0) := (blk_cell HL.out.q3 0).trans rfl
  have hy1 : W3.cell? ⟨w.heap.size + 1, 1, none⟩ = some (.int .i64 b) := (blk_cell HL.out.q3 1).trans rfl
  obtain ⟨ad, ea, hx0, hx1, hx2⟩ := at_T38 H0.out (b : Int) (by omega) (by omega)
  subst ea
  rw [Int.toNat_natCast] at hx0 hx1 hx2
  obtain ⟨⟨sa, s1, s2⟩, hs⟩ : ∃ s, rd_T38 l0 (b : Int) = s := ⟨_, rfl⟩
  rw [hs] at hx0 hx1 hx2
  dsimp only at *
  have HX := Aside0.mk (And.intro hx0 (And.intro hx1 hx2))
  have HS := Aside0.mk hs
  have HBI := Aside0.mk hb
  clear hx0 hx1 hx2 hs hb
  go_enter Tryd.func28, Tryd.ntmps28
  go_upto_region 1 with (fail)
  rw [HW3.out]
  clear HW3
  go_upto_region 6 with (first | (go_at_call 54; go_must (refine HKN.out.mono ?_; rintro e_ W4 ⟨rfl, hB4⟩; have HF := Aside0.mk (HL.out.below (below_step HBA.out hB4)); clear hB4 HL HKN HBA hz0 hz1 hz2 hz3 hy0 hy1; have hv0 : W4.cell? ⟨w.heap.size + 1, 0, none⟩ = some (.int .i64 0) := (blk_cell HF.out.2.1 0).trans rfl; have hv1 : W4.cell? ⟨w.heap.size + 1, 1, none⟩ = some (.int .i64 b) := (blk_cell HF.out.2.1 1).trans rfl)) | (go_at_call 55; go_must (refine (state_map W4 w.heap.size t ad _ _ _ true b HF.out.1 (by omega) (by have := HBI.out; omega)).mono ?_; rintro e_ W5 ⟨rfl, hB5⟩; have HG := Aside0.mk (show bookAt W5 w.heap.size t _ _ true ∧ W5.heap[w.heap.size + 1]? = some (.cells #[.int .i64 0, .int .i64 b] 29 (0, 0)) ∧ W5.heap[w.heap.size + 1 + 1]? = some (.cells #[.int .i64 0, .slice none 0 0, .slice none 0 0, .bool false] 24 (0, 0)) ∧ Below w.heap.size w W5 ∧ w.heap.size + 3 ≤ W5.heap.size from ⟨HF.out.1.below hB5 HF.out.1.lt, (hB5.block _ (by have := HF.out.2.2.2.2; omega)).trans HF.out.2.1, (hB5.block _ (by have := HF.out.2.2.2.2; omega)).trans HF.out.2.2.1, below_step HF.out.2.2.2.1 hB5, by have := hB5.size; have := HF.out.2.2.2.2; omega⟩); clear hB5 HF hv0 hv1; have hx0 := (HG.out.2.2.2.1.cell (World.block_lt_of_cell? w _ HX.out.1)).trans HX.out.1; have hx1 := (HG.out.2.2.2.1.cell (World.block_lt_of_cell? w _ HX.out.2.1)).trans HX.out.2.1; have hx2 := (HG.out.2.2.2.1.cell (World.block_lt_of_cell? w _ HX.out.2.2)).trans HX.out.2.2)))
  clear hx0 hx1 hx2
  obtain ⟨W6, hW6⟩ : ∃ W6, W6 = (W5.alloc (.cells #[.int .i64 sa, .int .i64 s1, .int .i64 s2] 38)).alloc (.cells #[.bool true, .bool false, .bool true, .bool false] 85) := ⟨_, rfl⟩
  rw [← hW6]
  have hb6 : Below W5.heap.size W5 W6 := by rw [hW6]; exact below_alloc (below_alloc (Below.refl _ _) _) _
  have hsz6 : W6.heap.size = W5.heap.size + 1 + 1 := by rw [hW6]; simp
  have hr9 : W6.heap[W5.heap.size]? = some (.cells #[.int .i64 sa, .int .i64 s1, .int .i64 s2] 38 (0, 0)) := by
    rw [hW6]
    exact ((below_alloc (Below.refl _ _) _).block W5.heap.size (by simp)).trans (heap_alloc_new W5 _)
  have hr10 : W6.heap[W5.heap.size + 1]? = some (.cells #[.bool true, .bool false, .bool true, .bool false] 85 (0, 0)) := by
    have e1 := heap_alloc_new (W5.alloc (.cells #[.int .i64 sa, .int .i64 s1, .int .i64 s2] 38)) (.cells #[.bool true, .bool false, .bool true, .bool false] 85)
    rw [show (W5.alloc (.cells #[.int .i64 sa, .int .i64 s1, .int .i64 s2] 38)).heap.size = W5.heap.size + 1 from by simp] at e1
    rw [hW6]
    exact e1
  have HM := Aside0.mk (show bookAt W6 w.heap.size t _ _ true ∧ W6.heap[w.heap.size + 1]? = some (.cells #[.int .i64 0, .int .i64 b] 29 (0, 0)) ∧ W6.heap[w.heap.size + 1 + 1]? = some (.cells #[.int .i64 0, .slice none 0 0, .slice none 0 0, .bool false] 24 (0, 0)) ∧ Below w.heap.size w W6 ∧ w.heap.size + 3 ≤ W5.heap.size from ⟨HG.out.1.below hb6 HG.out.1.lt, (hb6.block _ (by have := HG.out.2.2.2.2; omega)).trans HG.out.2.1, (hb6.block _ (by have := HG.out.2.2.2.2; omega)).trans HG.out.2.2.1, below_step HG.out.2.2.2.1 hb6, HG.out.2.2.2.2⟩)
  have HSZ := Aside0.mk hsz6
  have hz3 := HM.out.1.c3
  have hz1 := HM.out.1.c1
  have ht0 : W6.cell? ⟨w.heap.size + 1, 0, none⟩ = some (.int .i64 0) := (blk_cell HM.out.2.1 0).trans rfl
  have hm0 : W6.cell? ⟨W5.heap.size, 0, none⟩ = some (.int .i64 sa) := (blk_cell hr9 0).trans rfl
  have hm1 : W6.cell? ⟨W5.heap.size, 1, none⟩ = some (.int .i64 s1) := (blk_cell hr9 1).trans rfl
  have hy0 : W6.cell? ⟨W5.heap.size + 1, 0, none⟩ = some (.bool true) := (blk_cell hr10 0).trans rfl
  have hy1 : W6.cell? ⟨W5.heap.size + 1, 1, none⟩ = some (.bool false) := (blk_cell hr10 1).trans rfl
  have hy2 : W6.cell? ⟨W5.heap.size + 1, 2, none⟩ = some (.bool true) := (blk_cell hr10 2).trans rfl
  have hy3 : W6.cell? ⟨W5.heap.size + 1, 3, none⟩ = some (.bool false) := (blk_cell hr10 3).trans rfl
  clear hW6 hsz6 HG hb6
  have HR9 := Aside0.mk hr9
  clear hr9 hr10
  have hc0 : W6.cell? ⟨w.heap.size + 1 + 1, 0, none⟩ = some (.int .i64 0) := (blk_cell HM.out.2.2.1 0).trans rfl
  have hc1 : W6.cell? ⟨w.heap.size + 1 + 1, 1, none⟩ = some (.slice none 0 0) := (blk_cell HM.out.2.2.1 1).trans rfl
  have hc2 : W6.cell? ⟨w.heap.size + 1 + 1, 2, none⟩ = some (.slice none 0 0) := (blk_cell HM.out.2.2.1 2).trans rfl
  have hc3 : W6.cell? ⟨w.heap.size + 1 + 1, 3, none⟩ = some (.bool false) := (blk_cell HM.out.2.2.1 3).trans rfl
  have hf0 : W6.frozen? ⟨w.heap.size + 1 + 1, 0, none⟩ = false := frozen_of_row _ _ _ _ _ HM.out.2.2.1
  have hf1 : W6.frozen? ⟨w.heap.size + 1 + 1, 1, none⟩ = false := frozen_of_row _ _ _ _ _ HM.out.2.2.1
  have hf2 : W6.frozen? ⟨w.heap.size + 1 + 1, 2, none⟩ = false := frozen_of_row _ _ _ _ _ HM.out.2.2.1
  have hf3 : W6.frozen? ⟨w.heap.size + 1 + 1, 3, none⟩ = false := frozen_of_row _ _ _ _ _ HM.out.2.2.1
  go_wp2_with fail
  refine bodyPost_ret (results_list (rs := [.cell 4 24, .tmp 5, .tmp 6, .tmp 7]) rfl (by simp) (.cell (w.heap.size + 1 + 1) 24 #[.int .i64 0, .slice none 0 0, .slice none 0 0, .bool false] (0, 0) _ rfl (by refine blk_put (cs := #[.int .i64 0, .slice none 0 0, .slice none 0 0, .bool false]) ?_ 3 _ rfl; refine blk_put (cs := #[.int .i64 0, .slice none 0 0, .slice none 0 0, .bool false]) ?_ 2 _ rfl; refine blk_put (cs := #[.int .i64 0, .slice none 0 0, .slice none 0 0, .bool false]) ?_ 1 _ rfl; refine blk_put (cs := #[.int .i64 0, .slice none 0 0, .slice none 0 0, .bool false]) ?_ 0 _ rfl; exact HM.out.2.2.1) Tryd.underlying24 rfl (by kernel_rfl) (.tmp (.tmp (.tmp .nil))))) rfl ?_
  exact ⟨rfl, (((HM.out.2.2.2.1.setCell (by simp; omega) _).setCell (by simp; omega) _).setCell (by simp; omega) _).setCell (by simp; omega) _⟩

set_option maxHeartbeats 4000000 in
set_option maxRecDepth 100000 in
theorem begin_st1_map (t : Int) (A0 : Option Addr) (c0 : Nat) (l0 : List S38) (A1 : Option Addr) (c1 : Nat) (l1 : List S38) (b : Nat) (w : World)
    (h0 : Kd.C k38 w A0 l0.length l0) (hcap0 : l0.length ≤ c0) (h1 : Kd.C k38 w A1 l1.length l1) (hl0 : l0.length ≤ 6000000000000) (hl1 : l1.length ≤ 6000000000000) (hT : Tab w) (he : knownP t l0 l1 false [⟨0, b⟩] = 0) (hb : b < l0.length) (hst : (rd_T38 l0 (b : Int)).f0 = 1) :
    Calls Tryd.prog 28 #[.agg #[.int .i64 t, .slice A0 l0.length c0, .slice A1 l1.length c1, .bool false], .agg #[.int .i64 0, .int .i64 b]] w fun e_ w' => e_ = .returned (.tuple #[.agg #[.int .i64 0, .slice none 0 0, .slice none 0 0, .bool false], .int .i64 0, .bool false, .int .i64 192]) ∧ Below w.heap.size w w' := by
  have hl3 := lays3_of w t (.slice A0 l0.length c0) (.slice A1 l1.length c1) false 0 b
  have hba : Below w.heap.size w ((w3of w t (.slice A0 l0.length c0) (.slice A1 l1.length c1) false 0 b).alloc (.cells #[.int .i64 0, .int .i64 b] 29)) := below_alloc hl3.q0 _
  have hkn := known_any t false A0 c0 l0 A1 c1 l1 (some ⟨(w3of w t (.slice A0 l0.length c0) (.slice A1 l1.length c1) false 0 b).heap.size, 0, none⟩) 1 [⟨0, b⟩] ((w3of w t (.slice A0 l0.length c0) (.slice A1 l1.length c1) false 0 b).alloc (.cells #[.int .i64 0, .int .i64 b] 29)) (Kd.C_below h0 hba) (Kd.C_below h1 hba) (C_one (w3of w t (.slice A0 l0.length c0) (.slice A1 l1.length c1) false 0 b) 0 b) (by simp) hl0 hl1 (hT.below hba)
  rw [he] at hkn
  have H0 := Aside0.mk h0
  have H1 := Aside0.mk h1
  have HCP := Aside0.mk hcap0
  obtain ⟨W3, hW3⟩ : ∃ W3, (w3of w t (.slice A0 l0.length c0) (.slice A1 l1.length c1) false 0 b) = W3 := ⟨_, rfl⟩
  rw [hW3] at hl3 hba hkn
  unfold w3of at hW3
  have HW3 := Aside0.mk hW3
  have HL := Aside0.mk hl3
  have HKN := Aside0.mk hkn
  have ha := below_alloc (Below.refl W3.heap.size W3) (.cells #[.int .i64 0, .int .i64 b] 29)
  have HBA := Aside0.mk ha
  clear hba hkn h0 h1 he hl3 hT hl0 hl1 ha hW3 hcap0
  have hu22 := Tryd.underlying22
  have hu29 := Tryd.underlying29
  have hu24 := Tryd.underlying24
  have hu38 := Tryd.underlying38
  have hu26 := Tryd.underlying26
  have hu85 := Tryd.underlying85
  have hz0 := HL.out.q2.c0
  have hz1 := HL.out.q2.c1
  have hz2 := HL.out.q2.c2
  have hz3 := HL.out.q2.c3
  have hy0 : W3.cell? ⟨w.heap.size + 1, 0, none⟩ = some (.int .i64 0) := (blk_cell HL.out.q3 0).trans rfl
  have hy1 : W3.cell? ⟨w.heap.size + 1, 1, none⟩ = some (.int .i64 b) := (blk_cell HL.out.q3 1).trans rfl
  obtain ⟨ad, ea, hx0, hx1, hx2⟩ := at_T38 H0.out (b : Int) (by omega) (by omega)
  subst ea
  rw [Int.toNat_natCast] at hx0 hx1 hx2
  obtain ⟨⟨sa, s1, s2⟩, hs⟩ : ∃ s, rd_T38 l0 (b : Int) = s := ⟨_, rfl⟩
  rw [hs] at hx0 hx1 hx2 hst
  dsimp only at *
  subst hst
  have HX := Aside0.mk (And.intro hx0 (And.intro hx1 hx2))
  have HS := Aside0.mk hs
  have HBI := Aside0.mk hb
  clear hx0 hx1 hx2 hs hb
  go_enter Tryd.func28, Tryd.ntmps28
  go_upto_region 1 with (fail)
  rw [HW3.out]
  clear HW3
  go_upto_region 6 with (first | (go_at_call 54; go_must (refine HKN.out.mono ?_; rintro e_ W4 ⟨rfl, hB4⟩; have HF := Aside0.mk (HL.out.below (below_step HBA.out hB4)); clear hB4 HL HKN HBA hz0 hz1 hz2 hz3 hy0 hy1; have hv0 : W4.cell? ⟨w.heap.size + 1, 0, none⟩ = some (.int .i64 0) := (blk_cell HF.out.2.1 0).trans rfl; have hv1 : W4.cell? ⟨w.heap.size + 1, 1, none⟩ = some (.int .i64 b) := (blk_cell HF.out.2.1 1).trans rfl)) | (go_at_call 55; go_must (refine (state_map W4 w.heap.size t ad _ _ _ false b HF.out.1 (by omega) (by have := HBI.out; omega)).mono ?_; rintro e_ W5 ⟨rfl, hB5⟩; have HG := Aside0.mk (show bookAt W5 w.heap.size t _ _ false ∧ W5.heap[w.heap.size + 1]? = some (.cells #[.int .i64 0, .int .i64 b] 29 (0, 0)) ∧ W5.heap[w.heap.size + 1 + 1]? = some (.cells #[.int .i64 0, .slice none 0 0, .slice none 0 0, .bool false] 24 (0, 0)) ∧ Below w.heap.size w W5 ∧ w.heap.size + 3 ≤ W5.heap.size from ⟨HF.out.1.below hB5 HF.out.1.lt, (hB5.block _ (by have := HF.out.2.2.2.2; omega)).trans HF.out.2.1, (hB5.block _ (by have := HF.out.2.2.2.2; omega)).trans HF.out.2.2.1, below_step HF.out.2.2.2.1 hB5, by have := hB5.size; have := HF.out.2.2.2.2; omega⟩); clear hB5 HF hv0 hv1; have hx0 := (HG.out.2.2.2.1.cell (World.block_lt_of_cell? w _ HX.out.1)).trans HX.out.1; have hx1 := (HG.out.2.2.2.1.cell (World.block_lt_of_cell? w _ HX.out.2.1)).trans HX.out.2.1; have hx2 := (HG.out.2.2.2.1.cell (World.block_lt_of_cell? w _ HX.out.2.2)).trans HX.out.2.2)))
  clear hx0 hx1 hx2
  obtain ⟨W6, hW6⟩ : ∃ W6, W6 = (W5.alloc (.cells #[.int .i64 1, .int .i64 s1, .int .i64 s2] 38)).alloc (.cells #[.bool true, .bool false, .bool true, .bool false] 85) := ⟨_, rfl⟩
  rw [← hW6]
  have hb6 : Below W5.heap.size W5 W6 := by rw [hW6]; exact below_alloc (below_alloc (Below.refl _ _) _) _
  have hsz6 : W6.heap.size = W5.heap.size + 1 + 1 := by rw [hW6]; simp
  have hr9 : W6.heap[W5.heap.size]? = some (.cells #[.int .i64 1, .int .i64 s1, .int .i64 s2] 38 (0, 0)) := by
    rw [hW6]
    exact ((below_alloc (Below.refl _ _) _).block W5.heap.size (by simp)).trans (heap_alloc_new W5 _)
  have hr10 : W6.heap[W5.heap.size + 1]? = some (.cells #[.bool true, .bool false, .bool true, .bool false] 85 (0, 0)) := by
    have e1 := heap_alloc_new (W5.alloc (.cells #[.int .i64 1, .int .i64 s1, .int .i64 s2] 38)) (.cells #[.bool true, .bool false, .bool true, .bool false] 85)
    rw [show (W5.alloc (.cells #[.int .i64 1, .int .i64 s1, .int .i64 s2] 38)).heap.size = W5.heap.size + 1 from by simp] at e1
    rw [hW6]
    exact e1
  have HM := Aside0.mk (show bookAt W6 w.heap.size t _ _ false ∧ W6.heap[w.heap.size + 1]? = some (.cells #[.int .i64 0, .int .i64 b] 29 (0, 0)) ∧ W6.heap[w.heap.size + 1 + 1]? = some (.cells #[.int .i64 0, .slice none 0 0, .slice none 0 0, .bool false] 24 (0, 0)) ∧ Below w.heap.size w W6 ∧ w.heap.size + 3 ≤ W5.heap.size from ⟨HG.out.1.below hb6 HG.out.1.lt, (hb6.block _ (by have := HG.out.2.2.2.2; omega)).trans HG.out.2.1, (hb6.block _ (by have := HG.out.2.2.2.2; omega)).trans HG.out.2.2.1, below_step HG.out.2.2.2.1 hb6, HG.out.2.2.2.2⟩)
  have HSZ := Aside0.mk hsz6
  have hz3 := HM.out.1.c3
  have hz1 := HM.out.1.c1
  have ht0 : W6.cell? ⟨w.heap.size + 1, 0, none⟩ = some (.int .i64 0) := (blk_cell HM.out.2.1 0).trans rfl
  have hm0 : W6.cell? ⟨W5.heap.size, 0, none⟩ = some (.int .i64 1) := (blk_cell hr9 0).trans rfl
  have hm1 : W6.cell? ⟨W5.heap.size, 1, none⟩ = some (.int .i64 s1) := (blk_cell hr9 1).trans rfl
  have hy0 : W6.cell? ⟨W5.heap.size + 1, 0, none⟩ = some (.bool true) := (blk_cell hr10 0).trans rfl
  have hy1 : W6.cell? ⟨W5.heap.size + 1, 1, none⟩ = some (.bool false) := (blk_cell hr10 1).trans rfl
  have hy2 : W6.cell? ⟨W5.heap.size + 1, 2, none⟩ = some (.bool true) := (blk_cell hr10 2).trans rfl
  have hy3 : W6.cell? ⟨W5.heap.size + 1, 3, none⟩ = some (.bool false) := (blk_cell hr10 3).trans rfl
  clear hW6 hsz6 HG hb6
  have HR9 := Aside0.mk hr9
  clear hr9 hr10
  have hc0 : W6.cell? ⟨w.heap.size + 1 + 1, 0, none⟩ = some (.int .i64 0) := (blk_cell HM.out.2.2.1 0).trans rfl
  have hc1 : W6.cell? ⟨w.heap.size + 1 + 1, 1, none⟩ = some (.slice none 0 0) := (blk_cell HM.out.2.2.1 1).trans rfl
  have hc2 : W6.cell? ⟨w.heap.size + 1 + 1, 2, none⟩ = some (.slice none 0 0) := (blk_cell HM.out.2.2.1 2).trans rfl
  have hc3 : W6.cell? ⟨w.heap.size + 1 + 1, 3, none⟩ = some (.bool false) := (blk_cell HM.out.2.2.1 3).trans rfl
  have hf0 : W6.frozen? ⟨w.heap.size + 1 + 1, 0, none⟩ = false := frozen_of_row _ _ _ _ _ HM.out.2.2.1
  have hf1 : W6.frozen? ⟨w.heap.size + 1 + 1, 1, none⟩ = false := frozen_of_row _ _ _ _ _ HM.out.2.2.1
  have hf2 : W6.frozen? ⟨w.heap.size + 1 + 1, 2, none⟩ = false := frozen_of_row _ _ _ _ _ HM.out.2.2.1
  have hf3 : W6.frozen? ⟨w.heap.size + 1 + 1, 3, none⟩ = false := frozen_of_row _ _ _ _ _ HM.out.2.2.1
  go_wp2_with fail
  refine bodyPost_ret (results_list (rs := [.cell 4 24, .tmp 5, .tmp 6, .tmp 7]) rfl (by simp) (.cell (w.heap.size + 1 + 1) 24 #[.int .i64 0, .slice none 0 0, .slice none 0 0, .bool false] (0, 0) _ rfl (by refine blk_put (cs := #[.int .i64 0, .slice none 0 0, .slice none 0 0, .bool false]) ?_ 3 _ rfl; refine blk_put (cs := #[.int .i64 0, .slice none 0 0, .slice none 0 0, .bool false]) ?_ 2 _ rfl; refine blk_put (cs := #[.int .i64 0, .slice none 0 0, .slice none 0 0, .bool false]) ?_ 1 _ rfl; refine blk_put (cs := #[.int .i64 0, .slice none 0 0, .slice none 0 0, .bool false]) ?_ 0 _ rfl; exact HM.out.2.2.1) Tryd.underlying24 rfl (by kernel_rfl) (.tmp (.tmp (.tmp .nil))))) rfl ?_
  exact ⟨rfl, (((HM.out.2.2.2.1.setCell (by simp; omega) _).setCell (by simp; omega) _).setCell (by simp; omega) _).setCell (by simp; omega) _⟩

set_option maxHeartbeats 4000000 in
set_option maxRecDepth 100000 in
theorem begin_st3_map (t : Int) (A0 : Option Addr) (c0 : Nat) (l0 : List S38) (A1 : Option Addr) (c1 : Nat) (l1 : List S38) (b : Nat) (w : World)
    (h0 : Kd.C k38 w A0 l0.length l0) (hcap0 : l0.length ≤ c0) (h1 : Kd.C k38 w A1 l1.length l1) (hl0 : l0.length ≤ 6000000000000) (hl1 : l1.length ≤ 6000000000000) (hT : Tab w) (he : knownP t l0 l1 false [⟨0, b⟩] = 0) (hb : b < l0.length) (hst : (rd_T38 l0 (b : Int)).f0 = 3) :
    Calls Tryd.prog 28 #[.agg #[.int .i64 t, .slice A0 l0.length c0, .slice A1 l1.length c1, .bool false], .agg #[.int .i64 0, .int .i64 b]] w fun e_ w' => e_ = .returned (.tuple #[.agg #[.int .i64 0, .slice none 0 0, .slice none 0 0, .bool false], .int .i64 0, .bool false, .int .i64 192]) ∧ Below w.heap.size w w' := by
  have hl3 := lays3_of w t (.slice A0 l0.length c0) (.slice A1 l1.length c1) false 0 b
  have hba : Below w.heap.size w ((w3of w t (.slice A0 l0.length c0) (.slice A1 l1.length c1) false 0 b).alloc (.cells #[.int .i64 0, .int .i64 b] 29)) := below_alloc hl3.q0 _
  have hkn := known_any t false A0 c0 l0 A1 c1 l1 (some ⟨(w3of w t (.slice A0 l0.length c0) (.slice A1 l1.length c1) false 0 b).heap.size, 0, none⟩) 1 [⟨0, b⟩] ((w3of w t (.slice A0 l0.length c0) (.slice A1 l1.length c1) false 0 b).alloc (.cells #[.int .i64 0, .int .i64 b] 29)) (Kd.C_below h0 hba) (Kd.C_below h1 hba) (C_one (w3of w t (.slice A0 l0.length c0) (.slice A1 l1.length c1) false 0 b) 0 b) (by simp) hl0 hl1 (hT.below hba)
  rw [he] at hkn
  have H0 := Aside0.mk h0
  have H1 := Aside0.mk h1
  have HCP := Aside0.mk hcap0
  obtain ⟨W3, hW3⟩ : ∃ W3, (w3of w t (.slice A0 l0.length c0) (.slice A1 l1.length c1) false 0 b) = W3 := ⟨_, rfl⟩
  rw [hW3] at hl3 hba hkn
  unfold w3of at hW3
  have HW3 := Aside0.mk hW3
  have HL := Aside0.mk hl3
  have HKN := Aside0.mk hkn
  have ha := below_alloc (Below.refl W3.heap.size W3) (.cells #[.int .i64 0, .int .i64 b] 29)
  have HBA := Aside0.mk ha
  clear hba hkn h0 h1 he hl3 hT hl0 hl1 ha hW3 hcap0
  have hu22 := Tryd.underlying22
  have hu29 := Tryd.underlying29
  have hu24 := Tryd.underlying24
  have hu38 := Tryd.underlying38
  have hu26 := Tryd.underlying26
  have hu85 := Tryd.underlying85
  have hz0 := HL.out.q2.c0
  have hz1 := HL.out.q2.c1
  have hz2 := HL.out.q2.c2
  have hz3 := HL.out.q2.c3
  have hy0 : W3.cell? ⟨w.heap.size + 1, 0, none⟩ = some (.int .i64 0) := (blk_cell HL.out.q3 0).trans rfl
  have hy1 : W3.cell? ⟨w.heap.size + 1, 1, none⟩ = some (.int .i64 b) := (blk_cell HL.out.q3 1).trans rfl
  obtain ⟨ad, ea, hx0, hx1, hx2⟩ := at_T38 H0.out (b : Int) (by omega) (by omega)
  subst ea
  rw [Int.toNat_natCast] at hx0 hx1 hx2
  obtain ⟨⟨sa, s1, s2⟩, hs⟩ : ∃ s, rd_T38 l0 (b : Int) = s := ⟨_, rfl⟩
  rw [hs] at hx0 hx1 hx2 hst
  dsimp only at *
  subst hst
  have HX := Aside0.mk (And.intro hx0 (And.intro hx1 hx2))
  have HS := Aside0.mk hs
  have HBI := Aside0.mk hb
  clear hx0 hx1 hx2 hs hb
  go_enter Tryd.func28, Tryd.ntmps28
  go_upto_region 1 with (fail)
  rw [HW3.out]
  clear HW3
  go_upto_region 6 with (first | (go_at_call 54; go_must (refine HKN.out.mono ?_; rintro e_ W4 ⟨rfl, hB4⟩; have HF := Aside0.mk (HL.out.below (below_step HBA.out hB4)); clear hB4 HL HKN HBA hz0 hz1 hz2 hz3 hy0 hy1; have hv0 : W4.cell? ⟨w.heap.size + 1, 0, none⟩ = some (.int .i64 0) := (blk_cell HF.out.2.1 0).trans rfl; have hv1 : W4.cell? ⟨w.heap.size + 1, 1, none⟩ = some (.int .i64 b) := (blk_cell HF.out.2.1 1).trans rfl)) | (go_at_call 55; go_must (refine (state_map W4 w.heap.size t ad _ _ _ false b HF.out.1 (by omega) (by have := HBI.out; omega)).mono ?_; rintro e_ W5 ⟨rfl, hB5⟩; have HG := Aside0.mk (show bookAt W5 w.heap.size t _ _ false ∧ W5.heap[w.heap.size + 1]? = some (.cells #[.int .i64 0, .int .i64 b] 29 (0, 0)) ∧ W5.heap[w.heap.size + 1 + 1]? = some (.cells #[.int .i64 0, .slice none 0 0, .slice none 0 0, .bool false] 24 (0, 0)) ∧ Below w.heap.size w W5 ∧ w.heap.size + 3 ≤ W5.heap.size from ⟨HF.out.1.below hB5 HF.out.1.lt, (hB5.block _ (by have := HF.out.2.2.2.2; omega)).trans HF.out.2.1, (hB5.block _ (by have := HF.out.2.2.2.2; omega)).trans HF.out.2.2.1, below_step HF.out.2.2.2.1 hB5, by have := hB5.size; have := HF.out.2.2.2.2; omega⟩); clear hB5 HF hv0 hv1; have hx0 := (HG.out.2.2.2.1.cell (World.block_lt_of_cell? w _ HX.out.1)).trans HX.out.1; have hx1 := (HG.out.2.2.2.1.cell (World.block_lt_of_cell? w _ HX.out.2.1)).trans HX.out.2.1; have hx2 := (HG.out.2.2.2.1.cell (World.block_lt_of_cell? w _ HX.out.2.2)).trans HX.out.2.2)))
  clear hx0 hx1 hx2
  obtain ⟨W6, hW6⟩ : ∃ W6, W6 = (W5.alloc (.cells #[.int .i64 3, .int .i64 s1, .int .i64 s2] 38)).alloc (.cells #[.bool true, .bool false, .bool true, .bool false] 85) := ⟨_, rfl⟩
  rw [← hW6]
  have hb6 : Below W5.heap.size W5 W6 := by rw [hW6]; exact below_alloc (below_alloc (Below.refl _ _) _) _
  have hsz6 : W6.heap.size = W5.heap.size + 1 + 1 := by rw [hW6]; simp
  have hr9 : W6.heap[W5.heap.size]? = some (.cells #[.int .i64 3, .int .i64 s1, .int .i64 s2] 38 (0, 0)) := by
    rw [hW6]
    exact ((below_alloc (Below.refl _ _) _).block W5.heap.size (by simp)).trans (heap_alloc_new W5 _)
  have hr10 : W6.heap[W5.heap.size + 1]? = some (.cells #[.bool true, .bool false, .bool true, .bool false] 85 (0, 0)) := by
    have e1 := heap_alloc_new (W5.alloc (.cells #[.int .i64 3, .int .i64 s1, .int .i64 s2] 38)) (.cells #[.bool true, .bool false, .bool true, .bool false] 85)
    rw [show (W5.alloc (.cells #[.int .i64 3, .int .i64 s1, .int .i64 s2] 38)).heap.size = W5.heap.size + 1 from by simp] at e1
    rw [hW6]
    exact e1
  have HM := Aside0.mk (show bookAt W6 w.heap.size t _ _ false ∧ W6.heap[w.heap.size + 1]? = some (.cells #[.int .i64 0, .int .i64 b] 29 (0, 0)) ∧ W6.heap[w.heap.size + 1 + 1]? = some (.cells #[.int .i64 0, .slice none 0 0, .slice none 0 0, .bool false] 24 (0, 0)) ∧ Below w.heap.size w W6 ∧ w.heap.size + 3 ≤ W5.heap.size from ⟨HG.out.1.below hb6 HG.out.1.lt, (hb6.block _ (by have := HG.out.2.2.2.2; omega)).trans HG.out.2.1, (hb6.block _ (by have := HG.out.2.2.2.2; omega)).trans HG.out.2.2.1, below_step HG.out.2.2.2.1 hb6, HG.out.2.2.2.2⟩)
  have HSZ := Aside0.mk hsz6
  have hz3 := HM.out.1.c3
  have hz1 := HM.out.1.c1
  have ht0 : W6.cell? ⟨w.heap.size + 1, 0, none⟩ = some (.int .i64 0) := (blk_cell HM.out.2.1 0).trans rfl
  have hm0 : W6.cell? ⟨W5.heap.size, 0, none⟩ = some (.int .i64 3) := (blk_cell hr9 0).trans rfl
  have hm1 : W6.cell? ⟨W5.heap.size, 1, none⟩ = some (.int .i64 s1) := (blk_cell hr9 1).trans rfl
  have hy0 : W6.cell? ⟨W5.heap.size + 1, 0, none⟩ = some (.bool true) := (blk_cell hr10 0).trans rfl
  have hy1 : W6.cell? ⟨W5.heap.size + 1, 1, none⟩ = some (.bool false) := (blk_cell hr10 1).trans rfl
  have hy2 : W6.cell? ⟨W5.heap.size + 1, 2, none⟩ = some (.bool true) := (blk_cell hr10 2).trans rfl
  have hy3 : W6.cell? ⟨W5.heap.size + 1, 3, none⟩ = some (.bool false) := (blk_cell hr10 3).trans rfl
  clear hW6 hsz6 HG hb6
  have HR9 := Aside0.mk hr9
  clear hr9 hr10
  have hc0 : W6.cell? ⟨w.heap.size + 1 + 1, 0, none⟩ = some (.int .i64 0) := (blk_cell HM.out.2.2.1 0).trans rfl
  have hc1 : W6.cell? ⟨w.heap.size + 1 + 1, 1, none⟩ = some (.slice none 0 0) := (blk_cell HM.out.2.2.1 1).trans rfl
  have hc2 : W6.cell? ⟨w.heap.size + 1 + 1, 2, none⟩ = some (.slice none 0 0) := (blk_cell HM.out.2.2.1 2).trans rfl
  have hc3 : W6.cell? ⟨w.heap.size + 1 + 1, 3, none⟩ = some (.bool false) := (blk_cell HM.out.2.2.1 3).trans rfl
  have hf0 : W6.frozen? ⟨w.heap.size + 1 + 1, 0, none⟩ = false := frozen_of_row _ _ _ _ _ HM.out.2.2.1
  have hf1 : W6.frozen? ⟨w.heap.size + 1 + 1, 1, none⟩ = false := frozen_of_row _ _ _ _ _ HM.out.2.2.1
  have hf2 : W6.frozen? ⟨w.heap.size + 1 + 1, 2, none⟩ = false := frozen_of_row _ _ _ _ _ HM.out.2.2.1
  have hf3 : W6.frozen? ⟨w.heap.size + 1 + 1, 3, none⟩ = false := frozen_of_row _ _ _ _ _ HM.out.2.2.1
  go_wp2_with fail
  refine bodyPost_ret (results_list (rs := [.cell 4 24, .tmp 5, .tmp 6, .tmp 7]) rfl (by simp) (.cell (w.heap.size + 1 + 1) 24 #[.int .i64 0, .slice none 0 0, .slice none 0 0, .bool false] (0, 0) _ rfl (by refine blk_put (cs := #[.int .i64 0, .slice none 0 0, .slice none 0 0, .bool false]) ?_ 3 _ rfl; refine blk_put (cs := #[.int .i64 0, .slice none 0 0, .slice none 0 0, .bool false]) ?_ 2 _ rfl; refine blk_put (cs := #[.int .i64 0, .slice none 0 0, .slice none 0 0, .bool false]) ?_ 1 _ rfl; refine blk_put (cs := #[.int .i64 0, .slice none 0 0, .slice none 0 0, .bool false]) ?_ 0 _ rfl; exact HM.out.2.2.1) Tryd.underlying24 rfl (by kernel_rfl) (.tmp (.tmp (.tmp .nil))))) rfl ?_
  exact ⟨rfl, (((HM.out.2.2.2.1.setCell (by simp; omega) _).setCell (by simp; omega) _).setCell (by simp; omega) _).setCell (by simp; omega) _⟩

set_option maxHeartbeats 4000000 in
set_option maxRecDepth 100000 in
theorem begin_fresh_map (t : Int) (A0 : Option Addr) (c0 : Nat) (l0 : List S38) (A1 : Option Addr) (c1 : Nat) (l1 : List S38) (b : Nat) (w : World)
    (h0 : Kd.C k38 w A0 l0.length l0) (hcap0 : l0.length ≤ c0) (h1 : Kd.C k38 w A1 l1.length l1) (hl0 : l0.length ≤ 6000000000000) (hl1 : l1.length ≤ 6000000000000) (hT : Tab w) (he : knownP t l0 l1 false [⟨0, b⟩] = 0) (hb : b < l0.length) (hst : (rd_T38 l0 (b : Int)).f0 = 0) (hl0' : l0.length ≤ 100000) (hl1' : l1.length ≤ 100000) (hsm : 0 ≤ (rd_T38 l0 (b : Int)).f1 ∧ (rd_T38 l0 (b : Int)).f1 ≤ 1000) :
    Calls Tryd.prog 28 #[.agg #[.int .i64 t, .slice A0 l0.length c0, .slice A1 l1.length c1, .bool false], .agg #[.int .i64 0, .int .i64 b]] w fun e_ w' => ∃ v1 v2 : Value, e_ = .returned (.tuple #[.agg #[.int .i64 t, v1, v2, .bool false], .int .i64 ((rd_T38 l0 (b : Int)).f1 + 1), .bool true, .int .i64 0]) ∧ Kd.R k38 38 w' w.heap.size (fun k => some k ≠ v2.ownBlock) v1 (l0.set b ⟨1, (rd_T38 l0 (b : Int)).f1 + 1, (rd_T38 l0 (b : Int)).f2⟩) ∧ Kd.R k38 38 w' w.heap.size (fun k => some k ≠ v1.ownBlock) v2 l1 ∧ Below w.heap.size w w' := by
  have hl3 := lays3_of w t (.slice A0 l0.length c0) (.slice A1 l1.length c1) false 0 b
  have hba : Below w.heap.size w ((w3of w t (.slice A0 l0.length c0) (.slice A1 l1.length c1) false 0 b).alloc (.cells #[.int .i64 0, .int .i64 b] 29)) := below_alloc hl3.q0 _
  have hkn := known_any t false A0 c0 l0 A1 c1 l1 (some ⟨(w3of w t (.slice A0 l0.length c0) (.slice A1 l1.length c1) false 0 b).heap.size, 0, none⟩) 1 [⟨0, b⟩] ((w3of w t (.slice A0 l0.length c0) (.slice A1 l1.length c1) false 0 b).alloc (.cells #[.int .i64 0, .int .i64 b] 29)) (Kd.C_below h0 hba) (Kd.C_below h1 hba) (C_one (w3of w t (.slice A0 l0.length c0) (.slice A1 l1.length c1) false 0 b) 0 b) (by simp) hl0 hl1 (hT.below hba)
  rw [he] at hkn
  have H0 := Aside0.mk h0
  have H1 := Aside0.mk h1
  have HCP := Aside0.mk hcap0
  obtain ⟨W3, hW3⟩ : ∃ W3, (w3of w t (.slice A0 l0.length c0) (.slice A1 l1.length c1) false 0 b) = W3 := ⟨_, rfl⟩
  rw [hW3] at hl3 hba hkn
  unfold w3of at hW3
  have HW3 := Aside0.mk hW3
  have HL := Aside0.mk hl3
  have HKN := Aside0.mk hkn
  have ha := below_alloc (Below.refl W3.heap.size W3) (.cells #[.int .i64 0, .int .i64 b] 29)
  have HBA := Aside0.mk ha
  clear hba hkn h0 h1 he hl3 hT hl0 hl1 ha hW3 hcap0
  have hu22 := Tryd.underlying22
  have hu29 := Tryd.underlying29
  have hu24 := Tryd.underlying24
  have hu38 := Tryd.underlying38
  have hu26 := Tryd.underlying26
  have hu85 := Tryd.underlying85
  have hz0 := HL.out.q2.c0
  have hz1 := HL.out.q2.c1
  have hz2 := HL.out.q2.c2
  have hz3 := HL.out.q2.c3
  have hy0 : W3.cell? ⟨w.heap.size + 1, 0, none⟩ = some (.int .i64 0) := (blk_cell HL.out.q3 0).trans rfl
  have hy1 : W3.cell? ⟨w.heap.size + 1, 1, none⟩ = some (.int .i64 b) := (blk_cell HL.out.q3 1).trans rfl
  obtain ⟨ad, ea, hx0, hx1, hx2⟩ := at_T38 H0.out (b : Int) (by omega) (by omega)
  subst ea
  rw [Int.toNat_natCast] at hx0 hx1 hx2
  obtain ⟨⟨sa, s1, s2⟩, hs⟩ : ∃ s, rd_T38 l0 (b : Int) = s := ⟨_, rfl⟩
  rw [hs] at hx0 hx1 hx2 hst
  rw [hs] at hsm
  rw [hs]
  dsimp only at *
  subst hst
  have HX := Aside0.mk (And.intro hx0 (And.intro hx1 hx2))
  have HS := Aside0.mk hs
  have HBI := Aside0.mk hb
  clear hx0 hx1 hx2 hs hb
  have hwr : IntKind.i64.wrap (s1 + 1) = s1 + 1 := by rw [i64_w]; unfold wrap64; omega
  clear hsm
  go_enter Tryd.func28, Tryd.ntmps28
  go_upto_region 1 with (fail)
  rw [HW3.out]
  clear HW3
  go_upto_region 6 with (first | (go_at_call 54; go_must (refine HKN.out.mono ?_; rintro e_ W4 ⟨rfl, hB4⟩; have HF := Aside0.mk (HL.out.below (below_step HBA.out hB4)); clear hB4 HL HKN HBA hz0 hz1 hz2 hz3 hy0 hy1; have hv0 : W4.cell? ⟨w.heap.size + 1, 0, none⟩ = some (.int .i64 0) := (blk_cell HF.out.2.1 0).trans rfl; have hv1 : W4.cell? ⟨w.heap.size + 1, 1, none⟩ = some (.int .i64 b) := (blk_cell HF.out.2.1 1).trans rfl)) | (go_at_call 55; go_must (refine (state_map W4 w.heap.size t ad _ _ _ false b HF.out.1 (by omega) (by have := HBI.out; omega)).mono ?_; rintro e_ W5 ⟨rfl, hB5⟩; have HG := Aside0.mk (show bookAt W5 w.heap.size t _ _ false ∧ W5.heap[w.heap.size + 1]? = some (.cells #[.int .i64 0, .int .i64 b] 29 (0, 0)) ∧ W5.heap[w.heap.size + 1 + 1]? = some (.cells #[.int .i64 0, .slice none 0 0, .slice none 0 0, .bool false] 24 (0, 0)) ∧ Below w.heap.size w W5 ∧ w.heap.size + 3 ≤ W5.heap.size from ⟨HF.out.1.below hB5 HF.out.1.lt, (hB5.block _ (by have := HF.out.2.2.2.2; omega)).trans HF.out.2.1, (hB5.block _ (by have := HF.out.2.2.2.2; omega)).trans HF.out.2.2.1, below_step HF.out.2.2.2.1 hB5, by have := hB5.size; have := HF.out.2.2.2.2; omega⟩); clear hB5 HF hv0 hv1; have hx0 := (HG.out.2.2.2.1.cell (World.block_lt_of_cell? w _ HX.out.1)).trans HX.out.1; have hx1 := (HG.out.2.2.2.1.cell (World.block_lt_of_cell? w _ HX.out.2.1)).trans HX.out.2.1; have hx2 := (HG.out.2.2.2.1.cell (World.block_lt_of_cell? w _ HX.out.2.2)).trans HX.out.2.2)))
  clear hx0 hx1 hx2
  obtain ⟨W6, hW6⟩ : ∃ W6, W6 = (W5.alloc (.cells #[.int .i64 0, .int .i64 s1, .int .i64 s2] 38)).alloc (.cells #[.bool true, .bool false, .bool true, .bool false] 85) := ⟨_, rfl⟩
  rw [← hW6]
  have hb6 : Below W5.heap.size W5 W6 := by rw [hW6]; exact below_alloc (below_alloc (Below.refl _ _) _) _
  have hsz6 : W6.heap.size = W5.heap.size + 1 + 1 := by rw [hW6]; simp
  have hr9 : W6.heap[W5.heap.size]? = some (.cells #[.int .i64 0, .int .i64 s1, .int .i64 s2] 38 (0, 0)) := by
    rw [hW6]
    exact ((below_alloc (Below.refl _ _) _).block W5.heap.size (by simp)).trans (heap_alloc_new W5 _)
  have hr10 : W6.heap[W5.heap.size + 1]? = some (.cells #[.bool true, .bool false, .bool true, .bool false] 85 (0, 0)) := by
    have e1 := heap_alloc_new (W5.alloc (.cells #[.int .i64 0, .int .i64 s1, .int .i64 s2] 38)) (.cells #[.bool true, .bool false, .bool true, .bool false] 85)
    rw [show (W5.alloc (.cells #[.int .i64 0, .int .i64 s1, .int .i64 s2] 38)).heap.size = W5.heap.size + 1 from by simp] at e1
    rw [hW6]
    exact e1
  have HM := Aside0.mk (show bookAt W6 w.heap.size t _ _ false ∧ W6.heap[w.heap.size + 1]? = some (.cells #[.int .i64 0, .int .i64 b] 29 (0, 0)) ∧ W6.heap[w.heap.size + 1 + 1]? = some (.cells #[.int .i64 0, .slice none 0 0, .slice none 0 0, .bool false] 24 (0, 0)) ∧ Below w.heap.size w W6 ∧ w.heap.size + 3 ≤ W5.heap.size from ⟨HG.out.1.below hb6 HG.out.1.lt, (hb6.block _ (by have := HG.out.2.2.2.2; omega)).trans HG.out.2.1, (hb6.block _ (by have := HG.out.2.2.2.2; omega)).trans HG.out.2.2.1, below_step HG.out.2.2.2.1 hb6, HG.out.2.2.2.2⟩)
  have HSZ := Aside0.mk hsz6
  have hz3 := HM.out.1.c3
  have hz1 := HM.out.1.c1
  have ht0 : W6.cell? ⟨w.heap.size + 1, 0, none⟩ = some (.int .i64 0) := (blk_cell HM.out.2.1 0).trans rfl
  have hm0 : W6.cell? ⟨W5.heap.size, 0, none⟩ = some (.int .i64 0) := (blk_cell hr9 0).trans rfl
  have hm1 : W6.cell? ⟨W5.heap.size, 1, none⟩ = some (.int .i64 s1) := (blk_cell hr9 1).trans rfl
  have hy0 : W6.cell? ⟨W5.heap.size + 1, 0, none⟩ = some (.bool true) := (blk_cell hr10 0).trans rfl
  have hy1 : W6.cell? ⟨W5.heap.size + 1, 1, none⟩ = some (.bool false) := (blk_cell hr10 1).trans rfl
  have hy2 : W6.cell? ⟨W5.heap.size + 1, 2, none⟩ = some (.bool true) := (blk_cell hr10 2).trans rfl
  have hy3 : W6.cell? ⟨W5.heap.size + 1, 3, none⟩ = some (.bool false) := (blk_cell hr10 3).trans rfl
  clear hW6 hsz6 HG hb6
  have HR9 := Aside0.mk hr9
  clear hr9 hr10
  have HM7 := Aside0.mk (show bookAt W6 w.heap.size t _ _ false ∧ W6.heap[w.heap.size + 1]? = some (.cells #[.int .i64 0, .int .i64 b] 29 (0, 0)) ∧ W6.heap[w.heap.size + 1 + 1]? = some (.cells #[.int .i64 0, .slice none 0 0, .slice none 0 0, .bool false] 24 (0, 0)) ∧ Below w.heap.size w W6 ∧ w.heap.size + 3 ≤ W6.heap.size from ⟨HM.out.1, HM.out.2.1, HM.out.2.2.1, HM.out.2.2.2.1, by have := HM.out.2.2.2.2; have := HSZ.out; omega⟩)
  go_upto_region 12 with (fail)
  obtain ⟨gn, hgn⟩ : ∃ gn, W6.heap.size = gn := ⟨_, rfl⟩
  have hb8 : Below W6.heap.size W6 (W6.alloc (.cells #[.int .i64 (s1 + 1)] 3)) := below_alloc (Below.refl _ _) _
  have hn8 : (W6.alloc (.cells #[.int .i64 (s1 + 1)] 3)).cell? ⟨W6.heap.size, 0, none⟩ = some (.int .i64 (s1 + 1)) := (blk_cell (heap_alloc_new W6 _) 0).trans rfl
  have hs8 : (W6.alloc (.cells #[.int .i64 (s1 + 1)] 3)).heap.size = W6.heap.size + 1 := by simp
  obtain ⟨W8, hW8⟩ : ∃ W8, W8 = W6.alloc (.cells #[.int .i64 (s1 + 1)] 3) := ⟨_, rfl⟩
  rw [← hW8] at hb8 hn8 hs8 ⊢
  rw [hgn] at hn8 hs8 ⊢
  have HN := Aside0.mk (show bookAt W8 w.heap.size t _ _ false ∧ W8.heap[w.heap.size + 1]? = some (.cells #[.int .i64 0, .int .i64 b] 29 (0, 0)) ∧ W8.heap[w.heap.size + 1 + 1]? = some (.cells #[.int .i64 0, .slice none 0 0, .slice none 0 0, .bool false] 24 (0, 0)) ∧ Below w.heap.size w W8 ∧ w.heap.size + 3 ≤ gn ∧ W8.heap.size = gn + 1 from ⟨HM7.out.1.below hb8 HM7.out.1.lt, (hb8.block _ (by have := HM7.out.2.2.2.2; omega)).trans HM7.out.2.1, (hb8.block _ (by have := HM7.out.2.2.2.2; omega)).trans HM7.out.2.2.1, below_step HM7.out.2.2.2.1 hb8, by have := HM7.out.2.2.2.2; omega, hs8⟩)
  have hsr := HS.out
  have hch := changed_map 57 #[.pointer (some ⟨gn, 0, none⟩)] (enters_of Tryd.func57 (by kernel_rfl) rfl) t false (some ad) c0 l0 A1 c1 l1 b ⟨1, (s1 + 1), s2⟩ false W8.drew (Kd.C_below (Kd.C_below H0.out HN.out.2.2.2.1) (below_drew1 (Below.refl _ _))) (Kd.C_below (Kd.C_below H1.out HN.out.2.2.2.1) (below_drew1 (Below.refl _ _))) hl0' hl1' HBI.out
    (fun W gb gs off u0 u1 g1 g2 g3 g4 g5 => by
      rw [hsr] at g2
      have hn : W.cell? ⟨gn, 0, none⟩ = some (.int .i64 (s1 + 1)) := (g5.cell (show gn < W8.drew.heap.size by show gn < W8.heap.size; omega)).trans hn8
      exact do_begin W gb gs off gn (s1 + 1) t u0 u1 false ⟨0, s1, s2⟩ g1 g2 g3 hn (by have : W8.heap.size ≤ gs := g4; omega))
  have HCH := Aside0.mk hch
  clear hch hsr hW8 hb8 hs8 hm0 hm1 hz3 hz1 ht0 hy0 hy1 hy2 hy3 hgn hl0' hl1'
  have hz0 := HN.out.1.c0
  have hz1 := HN.out.1.c1
  have hz2 := HN.out.1.c2
  have hz3 := HN.out.1.c3
  have hy0 : W8.cell? ⟨w.heap.size + 1, 0, none⟩ = some (.int .i64 0) := (blk_cell HN.out.2.1 0).trans rfl
  have hy1 : W8.cell? ⟨w.heap.size + 1, 1, none⟩ = some (.int .i64 b) := (blk_cell HN.out.2.1 1).trans rfl
  have hmf : ∀ (fn : Fn) (first cap : Array Value) (w : World), (Instr.makeFunc fn first cap).run Tryd.prog w = .ok (.func fn first cap) w := fun _ _ _ _ => rfl
  have HN8 := Aside0.mk hn8
  go_region_held3 (fun w' => w'.cell? ⟨w.heap.size, 0, none⟩ = some (.int .i64 t) ∧ w'.cell? ⟨w.heap.size, 1, none⟩ = some (.slice (some ad) l0.length c0) ∧ w'.cell? ⟨w.heap.size, 2, none⟩ = some (.slice A1 l1.length c1) ∧ w'.cell? ⟨w.heap.size, 3, none⟩ = some (.bool false) ∧ w'.cell? ⟨w.heap.size + 1, 0, none⟩ = some (.int .i64 0) ∧ w'.cell? ⟨w.heap.size + 1, 1, none⟩ = some (.int .i64 b) ∧ w'.cell? ⟨gn, 0, none⟩ = some (.int .i64 (s1 + 1))) (first | exact HS9.out | go_keep) ((go_at_call 56; go_must (refine HCH.out.mono ?_; rintro e_ W9 ⟨v1, v2, rfl, hr1, hr2, hB9⟩; have HK := Aside0.mk (hB9.size); have HR1 := Aside0.mk (Kd.R_mono (Kd.R_bound hr1) (fun k hk => (⟨hk.1, hk.2.1⟩ : _ ∧ W8.heap.size ≤ k))); have HR2 := Aside0.mk (Kd.R_mono (Kd.R_bound hr2) (fun k hk => (⟨hk.1, hk.2.1⟩ : _ ∧ W8.heap.size ≤ k))); have HB9 := Aside0.mk (below_step (below_drew1 HN.out.2.2.2.1) hB9); have HZ9 := Aside0.mk (show W9.heap[w.heap.size + 1 + 1]? = some (.cells #[.int .i64 0, .slice none 0 0, .slice none 0 0, .bool false] 24 (0, 0)) from (hB9.block _ (show w.heap.size + 1 + 1 < W8.heap.size by have := HN.out.2.2.2.2; omega)).trans HN.out.2.2.1); have j0 := (hB9.cell (show w.heap.size < W8.heap.size from HN.out.1.lt)).trans hz0; have j1 := (hB9.cell (show w.heap.size < W8.heap.size from HN.out.1.lt)).trans hz1; have j2 := (hB9.cell (show w.heap.size < W8.heap.size from HN.out.1.lt)).trans hz2; have j3 := (hB9.cell (show w.heap.size < W8.heap.size from HN.out.1.lt)).trans hz3; have j4 := (hB9.cell (show w.heap.size + 1 < W8.heap.size by have := HN.out.2.2.2.2; omega)).trans hy0; have j5 := (hB9.cell (show w.heap.size + 1 < W8.heap.size by have := HN.out.2.2.2.2; omega)).trans hy1; have j6 := (hB9.cell (show gn < W8.heap.size by have := HN.out.2.2.2.2; omega)).trans HN8.out; clear hr1 hr2 hB9; obtain ⟨B1, d1, e1⟩ := Kd.R_slice HR1.out; subst e1; obtain ⟨B2, d2, e2⟩ := Kd.R_slice HR2.out; subst e2; (try simp only [List.length_set] at HR1 HR2); have HS9 := Aside0.mk (show ((((W9.setCell ⟨w.heap.size + 1 + 1, 0, none⟩ (.int .i64 t)).setCell ⟨w.heap.size + 1 + 1, 1, none⟩ (.slice B1 l0.length d1)).setCell ⟨w.heap.size + 1 + 1, 2, none⟩ (.slice B2 l1.length d2)).setCell ⟨w.heap.size + 1 + 1, 3, none⟩ (.bool false)).cell? ⟨w.heap.size, 0, none⟩ = some (.int .i64 t) ∧ ((((W9.setCell ⟨w.heap.size + 1 + 1, 0, none⟩ (.int .i64 t)).setCell ⟨w.heap.size + 1 + 1, 1, none⟩ (.slice B1 l0.length d1)).setCell ⟨w.heap.size + 1 + 1, 2, none⟩ (.slice B2 l1.length d2)).setCell ⟨w.heap.size + 1 + 1, 3, none⟩ (.bool false)).cell? ⟨w.heap.size, 1, none⟩ = some (.slice (some ad) l0.length c0) ∧ ((((W9.setCell ⟨w.heap.size + 1 + 1, 0, none⟩ (.int .i64 t)).setCell ⟨w.heap.size + 1 + 1, 1, none⟩ (.slice B1 l0.length d1)).setCell ⟨w.heap.size + 1 + 1, 2, none⟩ (.slice B2 l1.length d2)).setCell ⟨w.heap.size + 1 + 1, 3, none⟩ (.bool false)).cell? ⟨w.heap.size, 2, none⟩ = some (.slice A1 l1.length c1) ∧ ((((W9.setCell ⟨w.heap.size + 1 + 1, 0, none⟩ (.int .i64 t)).setCell ⟨w.heap.size + 1 + 1, 1, none⟩ (.slice B1 l0.length d1)).setCell ⟨w.heap.size + 1 + 1, 2, none⟩ (.slice B2 l1.length d2)).setCell ⟨w.heap.size + 1 + 1, 3, none⟩ (.bool false)).cell? ⟨w.heap.size, 3, none⟩ = some (.bool false) ∧ ((((W9.setCell ⟨w.heap.size + 1 + 1, 0, none⟩ (.int .i64 t)).setCell ⟨w.heap.size + 1 + 1, 1, none⟩ (.slice B1 l0.length d1)).setCell ⟨w.heap.size + 1 + 1, 2, none⟩ (.slice B2 l1.length d2)).setCell ⟨w.heap.size + 1 + 1, 3, none⟩ (.bool false)).cell? ⟨w.heap.size + 1, 0, none⟩ = some (.int .i64 0) ∧ ((((W9.setCell ⟨w.heap.size + 1 + 1, 0, none⟩ (.int .i64 t)).setCell ⟨w.heap.size + 1 + 1, 1, none⟩ (.slice B1 l0.length d1)).setCell ⟨w.heap.size + 1 + 1, 2, none⟩ (.slice B2 l1.length d2)).setCell ⟨w.heap.size + 1 + 1, 3, none⟩ (.bool false)).cell? ⟨w.heap.size + 1, 1, none⟩ = some (.int .i64 b) ∧ ((((W9.setCell ⟨w.heap.size + 1 + 1, 0, none⟩ (.int .i64 t)).setCell ⟨w.heap.size + 1 + 1, 1, none⟩ (.slice B1 l0.length d1)).setCell ⟨w.heap.size + 1 + 1, 2, none⟩ (.slice B2 l1.length d2)).setCell ⟨w.heap.size + 1 + 1, 3, none⟩ (.bool false)).cell? ⟨gn, 0, none⟩ = some (.int .i64 (s1 + 1)) from ⟨far4 j0 (by omega), far4 j1 (by omega), far4 j2 (by omega), far4 j3 (by omega), far4 j4 (by omega), far4 j5 (by omega), far4 j6 (by have := HN.out.2.2.2.2; omega)⟩); have hc0 : W9.cell? ⟨w.heap.size + 1 + 1, 0, none⟩ = some (.int .i64 0) := (blk_cell HZ9.out 0).trans rfl; have hc1 : W9.cell? ⟨w.heap.size + 1 + 1, 1, none⟩ = some (.slice none 0 0) := (blk_cell HZ9.out 1).trans rfl; have hc2 : W9.cell? ⟨w.heap.size + 1 + 1, 2, none⟩ = some (.slice none 0 0) := (blk_cell HZ9.out 2).trans rfl; have hc3 : W9.cell? ⟨w.heap.size + 1 + 1, 3, none⟩ = some (.bool false) := (blk_cell HZ9.out 3).trans rfl; have hf0 : W9.frozen? ⟨w.heap.size + 1 + 1, 0, none⟩ = false := frozen_of_row _ _ _ _ _ HZ9.out; have hf1 : W9.frozen? ⟨w.heap.size + 1 + 1, 1, none⟩ = false := frozen_of_row _ _ _ _ _ HZ9.out; have hf2 : W9.frozen? ⟨w.heap.size + 1 + 1, 2, none⟩ = false := frozen_of_row _ _ _ _ _ HZ9.out; have hf3 : W9.frozen? ⟨w.heap.size + 1 + 1, 3, none⟩ = false := frozen_of_row _ _ _ _ _ HZ9.out)))
  clear HS9 j0 j1 j2 j3 j4 j5 j6 hz0 hz1 hz2 hz3 hy0 hy1 hmf hc0 hc1 hc2 hc3 hf0 hf1 hf2 hf3
  go_wp2_with fail
  refine bodyPost_ret (results_list (rs := [.cell 4 24, .tmp 5, .tmp 6, .tmp 7]) rfl (by simp) (.cell (w.heap.size + 1 + 1) 24 #[.int .i64 t, .slice B1 l0.length d1, .slice B2 l1.length d2, .bool false] (0, 0) _ rfl (by refine blk_put (cs := #[.int .i64 t, .slice B1 l0.length d1, .slice B2 l1.length d2, .bool false]) ?_ 3 _ rfl; refine blk_put (cs := #[.int .i64 t, .slice B1 l0.length d1, .slice none 0 0, .bool false]) ?_ 2 _ rfl; refine blk_put (cs := #[.int .i64 t, .slice none 0 0, .slice none 0 0, .bool false]) ?_ 1 _ rfl; refine blk_put (cs := #[.int .i64 0, .slice none 0 0, .slice none 0 0, .bool false]) ?_ 0 _ rfl; exact HZ9.out) Tryd.underlying24 rfl (by kernel_rfl) (.tmp (.tmp (.tmp .nil))))) rfl ?_
  have hs : w.heap.size + 3 ≤ W8.heap.size := by have := HN.out.2.2.2.2; omega
  refine ⟨_, _, rfl, ?_, ?_, (((HB9.out.setCell (by simp; omega) _).setCell (by simp; omega) _).setCell (by simp; omega) _).setCell (by simp; omega) _⟩
  · exact Kd.R_lower (Kd.R_mono (Kd.R_far (p := ⟨w.heap.size + 1 + 1, 3, none⟩) (Kd.R_far (p := ⟨w.heap.size + 1 + 1, 2, none⟩) (Kd.R_far (p := ⟨w.heap.size + 1 + 1, 1, none⟩) (Kd.R_far (p := ⟨w.heap.size + 1 + 1, 0, none⟩) HR1.out (fun k hk => by have := hk.2; simp; omega) _) (fun k hk => by have := hk.2; simp; omega) _) (fun k hk => by have := hk.2; simp; omega) _) (fun k hk => by have := hk.2; simp; omega) _) (fun k hk => hk.1)) (show w.heap.size ≤ W8.heap.size by omega)
  · exact Kd.R_lower (Kd.R_mono (Kd.R_far (p := ⟨w.heap.size + 1 + 1, 3, none⟩) (Kd.R_far (p := ⟨w.heap.size + 1 + 1, 2, none⟩) (Kd.R_far (p := ⟨w.heap.size + 1 + 1, 1, none⟩) (Kd.R_far (p := ⟨w.heap.size + 1 + 1, 0, none⟩) HR2.out (fun k hk => by have := hk.2; simp; omega) _) (fun k hk => by have := hk.2; simp; omega) _) (fun k hk => by have := hk.2; simp; omega) _) (fun k hk => by have := hk.2; simp; omega) _) (fun k hk => hk.1)) (show w.heap.size ≤ W8.heap.size by omega)

set_option maxHeartbeats 4000000 in
set_option maxRecDepth 100000 in
theorem begin_failed_red (t : Int) (A0 : Option Addr) (c0 : Nat) (l0 : List S38) (A1 : Option Addr) (c1 : Nat) (l1 : List S38) (b : Nat) (w : World)
    (h0 : Kd.C k38 w A0 l0.length l0) (hcap0 : l0.length ≤ c0) (h1 : Kd.C k38 w A1 l1.length l1) (hl0 : l0.length ≤ 6000000000000) (hl1 : l1.length ≤ 6000000000000) (hT : Tab w) (he : knownP t l0 l1 true [⟨1, b⟩] = 0) (hb : b < l1.length) :
    Calls Tryd.prog 28 #[.agg #[.int .i64 t, .slice A0 l0.length c0, .slice A1 l1.length c1, .bool true], .agg #[.int .i64 1, .int .i64 b]] w fun e_ w' => e_ = .returned (.tuple #[.agg #[.int .i64 0, .slice none 0 0, .slice none 0 0, .bool false], .int .i64 0, .bool false, .int .i64 192]) ∧ Below w.heap.size w w' := by
  have hl3 := lays3_of w t (.slice A0 l0.length c0) (.slice A1 l1.length c1) true 1 b
  have hba : Below w.heap.size w ((w3of w t (.slice A0 l0.length c0) (.slice A1 l1.length c1) true 1 b).alloc (.cells #[.int .i64 1, .int .i64 b] 29)) := below_alloc hl3.q0 _
  have hkn := known_any t true A0 c0 l0 A1 c1 l1 (some ⟨(w3of w t (.slice A0 l0.length c0) (.slice A1 l1.length c1) true 1 b).heap.size, 0, none⟩) 1 [⟨1, b⟩] ((w3of w t (.slice A0 l0.length c0) (.slice A1 l1.length c1) true 1 b).alloc (.cells #[.int .i64 1, .int .i64 b] 29)) (Kd.C_below h0 hba) (Kd.C_below h1 hba) (C_one (w3of w t (.slice A0 l0.length c0) (.slice A1 l1.length c1) true 1 b) 1 b) (by simp) hl0 hl1 (hT.below hba)
  rw [he] at hkn
  have H0 := Aside0.mk h0
  have H1 := Aside0.mk h1
  have HCP := Aside0.mk hcap0
  obtain ⟨W3, hW3⟩ : ∃ W3, (w3of w t (.slice A0 l0.length c0) (.slice A1 l1.length c1) true 1 b) = W3 := ⟨_, rfl⟩
  rw [hW3] at hl3 hba hkn
  unfold w3of at hW3
  have HW3 := Aside0.mk hW3
  have HL := Aside0.mk hl3
  have HKN := Aside0.mk hkn
  have ha := below_alloc (Below.refl W3.heap.size W3) (.cells #[.int .i64 1, .int .i64 b] 29)
  have HBA := Aside0.mk ha
  clear hba hkn h0 h1 he hl3 hT hl0 hl1 ha hW3 hcap0
  have hu22 := Tryd.underlying22
  have hu29 := Tryd.underlying29
  have hu24 := Tryd.underlying24
  have hu38 := Tryd.underlying38
  have hu26 := Tryd.underlying26
  have hu85 := Tryd.underlying85
  have hz0 := HL.out.q2.c0
  have hz1 := HL.out.q2.c1
  have hz2 := HL.out.q2.c2
  have hz3 := HL.out.q2.c3
  have hy0 : W3.cell? ⟨w.heap.size + 1, 0, none⟩ = some (.int .i64 1) := (blk_cell HL.out.q3 0).trans rfl
  have hy1 : W3.cell? ⟨w.heap.size + 1, 1, none⟩ = some (.int .i64 b) := (blk_cell HL.out.q3 1).trans rfl
  obtain ⟨ad, ea, hx0, hx1, hx2⟩ := at_T38 H1.out (b : Int) (by omega) (by omega)
  subst ea
  rw [Int.toNat_natCast] at hx0 hx1 hx2
  obtain ⟨⟨sa, s1, s2⟩, hs⟩ : ∃ s, rd_T38 l1 (b : Int) = s := ⟨_, rfl⟩
  rw [hs] at hx0 hx1 hx2
  dsimp only at *
  have HX := Aside0.mk (And.intro hx0 (And.intro hx1 hx2))
  have HS := Aside0.mk hs
  have HBI := Aside0.mk hb
  clear hx0 hx1 hx2 hs hb
  go_enter Tryd.func28, Tryd.ntmps28
  go_upto_region 1 with (fail)
  rw [HW3.out]
  clear HW3
  go_upto_region 6 with (first | (go_at_call 54; go_must (refine HKN.out.mono ?_; rintro e_ W4 ⟨rfl, hB4⟩; have HF := Aside0.mk (HL.out.below (below_step HBA.out hB4)); clear hB4 HL HKN HBA hz0 hz1 hz2 hz3 hy0 hy1; have hv0 : W4.cell? ⟨w.heap.size + 1, 0, none⟩ = some (.int .i64 1) := (blk_cell HF.out.2.1 0).trans rfl; have hv1 : W4.cell? ⟨w.heap.size + 1, 1, none⟩ = some (.int .i64 b) := (blk_cell HF.out.2.1 1).trans rfl)) | (go_at_call 55; go_must (refine (state_red W4 w.heap.size t ad _ _ _ true b HF.out.1 (by omega) (by have := HBI.out; omega)).mono ?_; rintro e_ W5 ⟨rfl, hB5⟩; have HG := Aside0.mk (show bookAt W5 w.heap.size t _ _ true ∧ W5.heap[w.heap.size + 1]? = some (.cells #[.int .i64 1, .int .i64 b] 29 (0, 0)) ∧ W5.heap[w.heap.size + 1 + 1]? = some (.cells #[.int .i64 0, .slice none 0 0, .slice none 0 0, .bool false] 24 (0, 0)) ∧ Below w.heap.size w W5 ∧ w.heap.size + 3 ≤ W5.heap.size from ⟨HF.out.1.below hB5 HF.out.1.lt, (hB5.block _ (by have := HF.out.2.2.2.2; omega)).trans HF.out.2.1, (hB5.block _ (by have := HF.out.2.2.2.2; omega)).trans HF.out.2.2.1, below_step HF.out.2.2.2.1 hB5, by have := hB5.size; have := HF.out.2.2.2.2; omega⟩); clear hB5 HF hv0 hv1; have hx0 := (HG.out.2.2.2.1.cell (World.block_lt_of_cell? w _ HX.out.1)).trans HX.out.1; have hx1 := (HG.out.2.2.2.1.cell (World.block_lt_of_cell? w _ HX.out.2.1)).trans HX.out.2.1; have hx2 := (HG.out.2.2.2.1.cell (World.block_lt_of_cell? w _ HX.out.2.2)).trans HX.out.2.2)))
  clear hx0 hx1 hx2
  obtain ⟨W6, hW6⟩ : ∃ W6, W6 = (W5.alloc (.cells #[.int .i64 sa, .int .i64 s1, .int .i64 s2] 38)).alloc (.cells #[.bool true, .bool false, .bool true, .bool false] 85) := ⟨_, rfl⟩
  rw [← hW6]
  have hb6 : Below W5.heap.size W5 W6 := by rw [hW6]; exact below_alloc (below_alloc (Below.refl _ _) _) _
  have hsz6 : W6.heap.size = W5.heap.size + 1 + 1 := by rw [hW6]; simp
  have hr9 : W6.heap[W5.heap.size]? = some (.cells #[.int .i64 sa, .int .i64 s1, .int .i64 s2] 38 (0, 0)) := by
    rw [hW6]
    exact ((below_alloc (Below.refl _ _) _).block W5.heap.size (by simp)).trans (heap_alloc_new W5 _)
  have hr10 : W6.heap[W5.heap.size + 1]? = some (.cells #[.bool true, .bool false, .bool true, .bool false] 85 (0, 0)) := by
    have e1 := heap_alloc_new (W5.alloc (.cells #[.int .i64 sa, .int .i64 s1, .int .i64 s2] 38)) (.cells #[.bool true, .bool false, .bool true, .bool false] 85)
    rw [show (W5.alloc (.cells #[.int .i64 sa, .int .i64 s1, .int .i64 s2] 38)).heap.size = W5.heap.size + 1 from by simp] at e1
    rw [hW6]
    exact e1
  have HM := Aside0.mk (show bookAt W6 w.heap.size t _ _ true ∧ W6.heap[w.heap.size + 1]? = some (.cells #[.int .i64 1, .int .i64 b] 29 (0, 0)) ∧ W6.heap[w.heap.size + 1 + 1]? = some (.cells #[.int .i64 0, .slice none 0 0, .slice none 0 0, .bool false] 24 (0, 0)) ∧ Below w.heap.size w W6 ∧ w.heap.size + 3 ≤ W5.heap.size from ⟨HG.out.1.below hb6 HG.out.1.lt, (hb6.block _ (by have := HG.out.2.2.2.2; omega)).trans HG.out.2.1, (hb6.block _ (by have := HG.out.2.2.2.2; omega)).trans HG.out.2.2.1, below_step HG.out.2.2.2.1 hb6, HG.out.2.2.2.2⟩)
  have HSZ := Aside0.mk hsz6
  have hz3 := HM.out.1.c3
  have hz1 := HM.out.1.c1
  have ht0 : W6.cell? ⟨w.heap.size + 1, 0, none⟩ = some (.int .i64 1) := (blk_cell HM.out.2.1 0).trans rfl
  have hm0 : W6.cell? ⟨W5.heap.size, 0, none⟩ = some (.int .i64 sa) := (blk_cell hr9 0).trans rfl
  have hm1 : W6.cell? ⟨W5.heap.size, 1, none⟩ = some (.int .i64 s1) := (blk_cell hr9 1).trans rfl
  have hy0 : W6.cell? ⟨W5.heap.size + 1, 0, none⟩ = some (.bool true) := (blk_cell hr10 0).trans rfl
  have hy1 : W6.cell? ⟨W5.heap.size + 1, 1, none⟩ = some (.bool false) := (blk_cell hr10 1).trans rfl
  have hy2 : W6.cell? ⟨W5.heap.size + 1, 2, none⟩ = some (.bool true) := (blk_cell hr10 2).trans rfl
  have hy3 : W6.cell? ⟨W5.heap.size + 1, 3, none⟩ = some (.bool false) := (blk_cell hr10 3).trans rfl
  clear hW6 hsz6 HG hb6
  have HR9 := Aside0.mk hr9
  clear hr9 hr10
  have hc0 : W6.cell? ⟨w.heap.size + 1 + 1, 0, none⟩ = some (.int .i64 0) := (blk_cell HM.out.2.2.1 0).trans rfl
  have hc1 : W6.cell? ⟨w.heap.size + 1 + 1, 1, none⟩ = some (.slice none 0 0) := (blk_cell HM.out.2.2.1 1).trans rfl
  have hc2 : W6.cell? ⟨w.heap.size + 1 + 1, 2, none⟩ = some (.slice none 0 0) := (blk_cell HM.out.2.2.1 2).trans rfl
  have hc3 : W6.cell? ⟨w.heap.size + 1 + 1, 3, none⟩ = some (.bool false) := (blk_cell HM.out.2.2.1 3).trans rfl
  have hf0 : W6.frozen? ⟨w.heap.size + 1 + 1, 0, none⟩ = false := frozen_of_row _ _ _ _ _ HM.out.2.2.1
  have hf1 : W6.frozen? ⟨w.heap.size + 1 + 1, 1, none⟩ = false := frozen_of_row _ _ _ _ _ HM.out.2.2.1
  have hf2 : W6.frozen? ⟨w.heap.size + 1 + 1, 2, none⟩ = false := frozen_of_row _ _ _ _ _ HM.out.2.2.1
  have hf3 : W6.frozen? ⟨w.heap.size + 1 + 1, 3, none⟩ = false := frozen_of_row _ _ _ _ _ HM.out.2.2.1
  go_wp2_with fail
  refine bodyPost_ret (results_list (rs := [.cell 4 24, .tmp 5, .tmp 6, .tmp 7]) rfl (by simp) (.cell (w.heap.size + 1 + 1) 24 #[.int .i64 0, .slice none 0 0, .slice none 0 0, .bool false] (0, 0) _ rfl (by refine blk_put (cs := #[.int .i64 0, .slice none 0 0, .slice none 0 0, .bool false]) ?_ 3 _ rfl; refine blk_put (cs := #[.int .i64 0, .slice none 0 0, .slice none 0 0, .bool false]) ?_ 2 _ rfl; refine blk_put (cs := #[.int .i64 0, .slice none 0 0, .slice none 0 0, .bool false]) ?_ 1 _ rfl; refine blk_put (cs := #[.int .i64 0, .slice none 0 0, .slice none 0 0, .bool false]) ?_ 0 _ rfl; exact HM.out.2.2.1) Tryd.underlying24 rfl (by kernel_rfl) (.tmp (.tmp (.tmp .nil))))) rfl ?_
  exact ⟨rfl, (((HM.out.2.2.2.1.setCell (by simp; omega) _).setCell (by simp; omega) _).setCell (by simp; omega) _).setCell (by simp; omega) _⟩

set_option maxHeartbeats 4000000 in
set_option maxRecDepth 100000 in
theorem begin_st1_red (t : Int) (A0 : Option Addr) (c0 : Nat) (l0 : List S38) (A1 : Option Addr) (c1 : Nat) (l1 : List S38) (b : Nat) (w : World)
    (h0 : Kd.C k38 w A0 l0.length l0) (hcap0 : l0.length ≤ c0) (h1 : Kd.C k38 w A1 l1.length l1) (hl0 : l0.length ≤ 6000000000000) (hl1 : l1.length ≤ 6000000000000) (hT : Tab w) (he : knownP t l0 l1 false [⟨1, b⟩] = 0) (hb : b < l1.length) (hst : (rd_T38 l1 (b : Int)).f0 = 1) :
    Calls Tryd.prog 28 #[.agg #[.int .i64 t, .slice A0 l0.length c0, .slice A1 l1.length c1, .bool false], .agg #[.int .i64 1, .int .i64 b]] w fun e_ w' => e_ = .returned (.tuple #[.agg #[.int .i64 0, .slice none 0 0, .slice none 0 0, .bool false], .int .i64 0, .bool false, .int .i64 192]) ∧ Below w.heap.size w w' := by
  have hl3 := lays3_of w t (.slice A0 l0.length c0) (.slice A1 l1.length c1) false 1 b
  have hba : Below w.heap.size w ((w3of w t (.slice A0 l0.length c0) (.slice A1 l1.length c1) false 1 b).alloc (.cells #[.int .i64 1, .int .i64 b] 29)) := below_alloc hl3.q0 _
  have hkn := known_any t false A0 c0 l0 A1 c1 l1 (some ⟨(w3of w t (.slice A0 l0.length c0) (.slice A1 l1.length c1) false 1 b).heap.size, 0, none⟩) 1 [⟨1, b⟩] ((w3of w t (.slice A0 l0.length c0) (.slice A1 l1.length c1) false 1 b).alloc (.cells #[.int .i64 1, .int .i64 b] 29)) (Kd.C_below h0 hba) (Kd.C_below h1 hba) (C_one (w3of w t (.slice A0 l0.length c0) (.slice A1 l1.length c1) false 1 b) 1 b) (by simp) hl0 hl1 (hT.below hba)
  rw [he] at hkn
  have H0 := Aside0.mk h0
  have H1 := Aside0.mk h1
  have HCP := Aside0.mk hcap0
  obtain ⟨W3, hW3⟩ : ∃ W3, (w3of w t (.slice A0 l0.length c0) (.slice A1 l1.length c1) false 1 b) = W3 := ⟨_, rfl⟩
  rw [hW3] at hl3 hba hkn
  unfold w3of at hW3
  have HW3 := Aside0.mk hW3
  have HL := Aside0.mk hl3
  have HKN := Aside0.mk hkn
  have ha := below_alloc (Below.refl W3.heap.size W3) (.cells #[.int .i64 1, .int .i64 b] 29)
  have HBA := Aside0.mk ha
  clear hba hkn h0 h1 he hl3 hT hl0 hl1 ha hW3 hcap0
  have hu22 := Tryd.underlying22
  have hu29 := Tryd.underlying29
  have hu24 := Tryd.underlying24
  have hu38 := Tryd.underlying38
  have hu26 := Tryd.underlying26
  have hu85 := Tryd.underlying85
  have hz0 := HL.out.q2.c0
  have hz1 := HL.out.q2.c1
  have hz2 := HL.out.q2.c2
  have hz3 := HL.out.q2.c3
  have hy0 : W3.cell? ⟨w.heap.size + 1, 0, none⟩ = some (.int .i64 1) := (blk_cell HL.out.q3 0).trans rfl
  have hy1 : W3.cell? ⟨w.heap.size + 1, 1, none⟩ = some (.int .i64 b) := (blk_cell HL.out.q3 1).trans rfl
  obtain ⟨ad, ea, hx0, hx1, hx2⟩ := at_T38 H1.out (b : Int) (by omega) (by omega)
  subst ea
  rw [Int.toNat_natCast] at hx0 hx1 hx2
  obtain ⟨⟨sa, s1, s2⟩, hs⟩ : ∃ s, rd_T38 l1 (b : Int) = s := ⟨_, rfl⟩
  rw [hs] at hx0 hx1 hx2 hst
  dsimp only at *
  subst hst
  have HX := Aside0.mk (And.intro hx0 (And.intro hx1 hx2))
  have HS := Aside0.mk hs
  have HBI := Aside0.mk hb
  clear hx0 hx1 hx2 hs hb
  go_enter Tryd.func28, Tryd.ntmps28
  go_upto_region 1 with (fail)
  rw [HW3.out]
  clear HW3
  go_upto_region 6 with (first | (go_at_call 54; go_must (refine HKN.out.mono ?_; rintro e_ W4 ⟨rfl, hB4⟩; have HF := Aside0.mk (HL.out.below (below_step HBA.out hB4)); clear hB4 HL HKN HBA hz0 hz1 hz2 hz3 hy0 hy1; have hv0 : W4.cell? ⟨w.heap.size + 1, 0, none⟩ = some (.int .i64 1) := (blk_cell HF.out.2.1 0).trans rfl; have hv1 : W4.cell? ⟨w.heap.size + 1, 1, none⟩ = some (.int .i64 b) := (blk_cell HF.out.2.1 1).trans rfl)) | (go_at_call 55; go_must (refine (state_red W4 w.heap.size t ad _ _ _ false b HF.out.1 (by omega) (by have := HBI.out; omega)).mono ?_; rintro e_ W5 ⟨rfl, hB5⟩; have HG := Aside0.mk (show bookAt W5 w.heap.size t _ _ false ∧ W5.heap[w.heap.size + 1]? = some (.cells #[.int .i64 1, .int .i64 b] 29 (0, 0)) ∧ W5.heap[w.heap.size + 1 + 1]? = some (.cells #[.int .i64 0, .slice none 0 0, .slice none 0 0, .bool false] 24 (0, 0)) ∧ Below w.heap.size w W5 ∧ w.heap.size + 3 ≤ W5.heap.size from ⟨HF.out.1.below hB5 HF.out.1.lt, (hB5.block _ (by have := HF.out.2.2.2.2; omega)).trans HF.out.2.1, (hB5.block _ (by have := HF.out.2.2.2.2; omega)).trans HF.out.2.2.1, below_step HF.out.2.2.2.1 hB5, by have := hB5.size; have := HF.out.2.2.2.2; omega⟩); clear hB5 HF hv0 hv1; have hx0 := (HG.out.2.2.2.1.cell (World.block_lt_of_cell? w _ HX.out.1)).trans HX.out.1; have hx1 := (HG.out.2.2.2.1.cell (World.block_lt_of_cell? w _ HX.out.2.1)).trans HX.out.2.1; have hx2 := (HG.out.2.2.2.1.cell (World.block_lt_of_cell? w _ HX.out.2.2)).trans HX.out.2.2)))
  clear hx0 hx1 hx2
  obtain ⟨W6, hW6⟩ : ∃ W6, W6 = (W5.alloc (.cells #[.int .i64 1, .int .i64 s1, .int .i64 s2] 38)).alloc (.cells #[.bool true, .bool false, .bool true, .bool false] 85) := ⟨_, rfl⟩
  rw [← hW6]
  have hb6 : Below W5.heap.size W5 W6 := by rw [hW6]; exact below_alloc (below_alloc (Below.refl _ _) _) _
  have hsz6 : W6.heap.size = W5.heap.size + 1 + 1 := by rw [hW6]; simp
  have hr9 : W6.heap[W5.heap.size]? = some (.cells #[.int .i64 1, .int .i64 s1, .int .i64 s2] 38 (0, 0)) := by
    rw [hW6]
    exact ((below_alloc (Below.refl _ _) _).block W5.heap.size (by simp)).trans (heap_alloc_new W5 _)
  have hr10 : W6.heap[W5.heap.size + 1]? = some (.cells #[.bool true, .bool false, .bool true, .bool false] 85 (0, 0)) := by
    have e1 := heap_alloc_new (W5.alloc (.cells #[.int .i64 1, .int .i64 s1, .int .i64 s2] 38)) (.cells #[.bool true, .bool false, .bool true, .bool false] 85)
    rw [show (W5.alloc (.cells #[.int .i64 1, .int .i64 s1, .int .i64 s2] 38)).heap.size = W5.heap.size + 1 from by simp] at e1
    rw [hW6]
    exact e1
  have HM := Aside0.mk (show bookAt W6 w.heap.size t _ _ false ∧ W6.heap[w.heap.size + 1]? = some (.cells #[.int .i64 1, .int .i64 b] 29 (0, 0)) ∧ W6.heap[w.heap.size + 1 + 1]? = some (.cells #[.int .i64 0, .slice none 0 0, .slice none 0 0, .bool false] 24 (0, 0)) ∧ Below w.heap.size w W6 ∧ w.heap.size + 3 ≤ W5.heap.size from ⟨HG.out.1.below hb6 HG.out.1.lt, (hb6.block _ (by have := HG.out.2.2.2.2; omega)).trans HG.out.2.1, (hb6.block _ (by have := HG.out.2.2.2.2; omega)).trans HG.out.2.2.1, below_step HG.out.2.2.2.1 hb6, HG.out.2.2.2.2⟩)
  have HSZ := Aside0.mk hsz6
  have hz3 := HM.out.1.c3
  have hz1 := HM.out.1.c1
  have ht0 : W6.cell? ⟨w.heap.size + 1, 0, none⟩ = some (.int .i64 1) := (blk_cell HM.out.2.1 0).trans rfl
  have hm0 : W6.cell? ⟨W5.heap.size, 0, none⟩ = some (.int .i64 1) := (blk_cell hr9 0).trans rfl
  have hm1 : W6.cell? ⟨W5.heap.size, 1, none⟩ = some (.int .i64 s1) := (blk_cell hr9 1).trans rfl
  have hy0 : W6.cell? ⟨W5.heap.size + 1, 0, none⟩ = some (.bool true) := (blk_cell hr10 0).trans rfl
  have hy1 : W6.cell? ⟨W5.heap.size + 1, 1, none⟩ = some (.bool false) := (blk_cell hr10 1).trans rfl
  have hy2 : W6.cell? ⟨W5.heap.size + 1, 2, none⟩ = some (.bool true) := (blk_cell hr10 2).trans rfl
  have hy3 : W6.cell? ⟨W5.heap.size + 1, 3, none⟩ = some (.bool false) := (blk_cell hr10 3).trans rfl
  clear hW6 hsz6 HG hb6
  have HR9 := Aside0.mk hr9
  clear hr9 hr10
  have hc0 : W6.cell? ⟨w.heap.size + 1 + 1, 0, none⟩ = some (.int .i64 0) := (blk_cell HM.out.2.2.1 0).trans rfl
  have hc1 : W6.cell? ⟨w.heap.size + 1 + 1, 1, none⟩ = some (.slice none 0 0) := (blk_cell HM.out.2.2.1 1).trans rfl
  have hc2 : W6.cell? ⟨w.heap.size + 1 + 1, 2, none⟩ = some (.slice none 0 0) := (blk_cell HM.out.2.2.1 2).trans rfl
  have hc3 : W6.cell? ⟨w.heap.size + 1 + 1, 3, none⟩ = some (.bool false) := (blk_cell HM.out.2.2.1 3).trans rfl
  have hf0 : W6.frozen? ⟨w.heap.size + 1 + 1, 0, none⟩ = false := frozen_of_row _ _ _ _ _ HM.out.2.2.1
  have hf1 : W6.frozen? ⟨w.heap.size + 1 + 1, 1, none⟩ = false := frozen_of_row _ _ _ _ _ HM.out.2.2.1
  have hf2 : W6.frozen? ⟨w.heap.size + 1 + 1, 2, none⟩ = false := frozen_of_row _ _ _ _ _ HM.out.2.2.1
  have hf3 : W6.frozen? ⟨w.heap.size + 1 + 1, 3, none⟩ = false := frozen_of_row _ _ _ _ _ HM.out.2.2.1
  go_wp2_with fail
  refine bodyPost_ret (results_list (rs := [.cell 4 24, .tmp 5, .tmp 6, .tmp 7]) rfl (by simp) (.cell (w.heap.size + 1 + 1) 24 #[.int .i64 0, .slice none 0 0, .slice none 0 0, .bool false] (0, 0) _ rfl (by refine blk_put (cs := #[.int .i64 0, .slice none 0 0, .slice none 0 0, .bool false]) ?_ 3 _ rfl; refine blk_put (cs := #[.int .i64 0, .slice none 0 0, .slice none 0 0, .bool false]) ?_ 2 _ rfl; refine blk_put (cs := #[.int .i64 0, .slice none 0 0, .slice none 0 0, .bool false]) ?_ 1 _ rfl; refine blk_put (cs := #[.int .i64 0, .slice none 0 0, .slice none 0 0, .bool false]) ?_ 0 _ rfl; exact HM.out.2.2.1) Tryd.underlying24 rfl (by kernel_rfl) (.tmp (.tmp (.tmp .nil))))) rfl ?_
  exact ⟨rfl, (((HM.out.2.2.2.1.setCell (by simp; omega) _).setCell (by simp; omega) _).setCell (by simp; omega) _).setCell (by simp; omega) _⟩

set_option maxHeartbeats 4000000 in
set_option maxRecDepth 100000 in
theorem begin_st3_red (t : Int) (A0 : Option Addr) (c0 : Nat) (l0 : List S38) (A1 : Option Addr) (c1 : Nat) (l1 : List S38) (b : Nat) (w : World)
    (h0 : Kd.C k38 w A0 l0.length l0) (hcap0 : l0.length ≤ c0) (h1 : Kd.C k38 w A1 l1.length l1) (hl0 : l0.length ≤ 6000000000000) (hl1 : l1.length ≤ 6000000000000) (hT : Tab w) (he : knownP t l0 l1 false [⟨1, b⟩] = 0) (hb : b < l1.length) (hst : (rd_T38 l1 (b : Int)).f0 = 3) :
    Calls Tryd.prog 28 #[.agg #[.int .i64 t, .slice A0 l0.length c0, .slice A1 l1.length c1, .bool false], .agg #[.int .i64 1, .int .i64 b]] w fun e_ w' => e_ = .returned (.tuple #[.agg #[.int .i64 0, .slice none 0 0, .slice none 0 0, .bool false], .int .i64 0, .bool false, .int .i64 192]) ∧ Below w.heap.size w w' := by
  have hl3 := lays3_of w t (.slice A0 l0.length c0) (.slice A1 l1.length c1) false 1 b
  have hba : Below w.heap.size w ((w3of w t (.slice A0 l0.length c0) (.slice A1 l1.length c1) false 1 b).alloc (.cells #[.int .i64 1, .int .i64 b] 29)) := below_alloc hl3.q0 _
  have hkn := known_any t false A0 c0 l0 A1 c1 l1 (some ⟨(w3of w t (.slice A0 l0.length c0) (.slice A1 l1.length c1) false 1 b).heap.size, 0, none⟩) 1 [⟨1, b⟩] ((w3of w t (.slice A0 l0.length c0) (.slice A1 l1.length c1) false 1 b).alloc (.cells #[.int .i64 1, .int .i64 b] 29)) (Kd.C_below h0 hba) (Kd.C_below h1 hba) (C_one (w3of w t (.slice A0 l0.length c0) (.slice A1 l1.length c1) false 1 b) 1 b) (by simp) hl0 hl1 (hT.below hba)
  rw [he] at hkn
  have H0 := Aside0.mk h0
  have H1 := Aside0.mk h1
  have HCP := Aside0.mk hcap0
  obtain ⟨W3, hW3⟩ : ∃ W3, (w3of w t (.slice A0 l0.length c0) (.slice A1 l1.length c1) false 1 b) = W3 := ⟨_, rfl⟩
  rw [hW3] at hl3 hba hkn
  unfold w3of at hW3
  have HW3 := Aside0.mk hW3
  have HL := Aside0.mk hl3
  have HKN := Aside0.mk hkn
  have ha := below_alloc (Below.refl W3.heap.size W3) (.cells #[.int .i64 1, .int .i64 b] 29)
  have HBA := Aside0.mk ha
  clear hba hkn h0 h1 he hl3 hT hl0 hl1 ha hW3 hcap0
  have hu22 := Tryd.underlying22
  have hu29 := Tryd.underlying29
  have hu24 := Tryd.underlying24
  have hu38 := Tryd.underlying38
  have hu26 := Tryd.underlying26
  have hu85 := Tryd.underlying85
  have hz0 := HL.out.q2.c0
  have hz1 := HL.out.q2.c1
  have hz2 := HL.out.q2.c2
  have hz3 := HL.out.q2.c3
  have hy0 : W3.cell? ⟨w.heap.size + 1, 0, none⟩ = some (.int .i64 1) := (blk_cell HL.out.q3 0).trans rfl
  have hy1 : W3.cell? ⟨w.heap.size + 1, 1, none⟩ = some (.int .i64 b) := (blk_cell HL.out.q3 1).trans rfl
  obtain ⟨ad, ea, hx0, hx1, hx2⟩ := at_T38 H1.out (b : Int) (by omega) (by omega)
  subst ea
  rw [Int.toNat_natCast] at hx0 hx1 hx2
  obtain ⟨⟨sa, s1, s2⟩, hs⟩ : ∃ s, rd_T38 l1 (b : Int) = s := ⟨_, rfl⟩
  rw [hs] at hx0 hx1 hx2 hst
  dsimp only at *
  subst hst
  have HX := Aside0.mk (And.intro hx0 (And.intro hx1 hx2))
  have HS := Aside0.mk hs
  have HBI := Aside0.mk hb
  clear hx0 hx1 hx2 hs hb
  go_enter Tryd.func28, Tryd.ntmps28
  go_upto_region 1 with (fail)
  rw [HW3.out]
  clear HW3
  go_upto_region 6 with (first | (go_at_call 54; go_must (refine HKN.out.mono ?_; rintro e_ W4 ⟨rfl, hB4⟩; have HF := Aside0.mk (HL.out.below (below_step HBA.out hB4)); clear hB4 HL HKN HBA hz0 hz1 hz2 hz3 hy0 hy1; have hv0 : W4.cell? ⟨w.heap.size + 1, 0, none⟩ = some (.int .i64 1) := (blk_cell HF.out.2.1 0).trans rfl; have hv1 : W4.cell? ⟨w.heap.size + 1, 1, none⟩ = some (.int .i64 b) := (blk_cell HF.out.2.1 1).trans rfl)) | (go_at_call 55; go_must (refine (state_red W4 w.heap.size t ad _ _ _ false b HF.out.1 (by omega) (by have := HBI.out; omega)).mono ?_; rintro e_ W5 ⟨rfl, hB5⟩; have HG := Aside0.mk (show bookAt W5 w.heap.size t _ _ false ∧ W5.heap[w.heap.size + 1]? = some (.cells #[.int .i64 1, .int .i64 b] 29 (0, 0)) ∧ W5.heap[w.heap.size + 1 + 1]? = some (.cells #[.int .i64 0, .slice none 0 0, .slice none 0 0, .bool false] 24 (0, 0)) ∧ Below w.heap.size w W5 ∧ w.heap.size + 3 ≤ W5.heap.size from ⟨HF.out.1.below hB5 HF.out.1.lt, (hB5.block _ (by have := HF.out.2.2.2.2; omega)).trans HF.out.2.1, (hB5.block _ (by have := HF.out.2.2.2.2; omega)).trans HF.out.2.2.1, below_step HF.out.2.2.2.1 hB5, by have := hB5.size; have := HF.out.2.2.2.2; omega⟩); clear hB5 HF hv0 hv1; have hx0 := (HG.out.2.2.2.1.cell (World.block_lt_of_cell? w _ HX.out.1)).trans HX.out.1; have hx1 := (HG.out.2.2.2.1.cell (World.block_lt_of_cell? w _ HX.out.2.1)).trans HX.out.2.1; have hx2 := (HG.out.2.2.2.1.cell (World.block_lt_of_cell? w _ HX.out.2.2)).trans HX.out.2.2)))
  clear hx0 hx1 hx2
  obtain ⟨W6, hW6⟩ : ∃ W6, W6 = (W5.alloc (.cells #[.int .i64 3, .int .i64 s1, .int .i64 s2] 38)).alloc (.cells #[.bool true, .bool false, .bool true, .bool false] 85) := ⟨_, rfl⟩
  rw [← hW6]
  have hb6 : Below W5.heap.size W5 W6 := by rw [hW6]; exact below_alloc (below_alloc (Below.refl _ _) _) _
  have hsz6 : W6.heap.size = W5.heap.size + 1 + 1 := by rw [hW6]; simp
  have hr9 : W6.heap[W5.heap.size]? = some (.cells #[.int .i64 3, .int .i64 s1, .int .i64 s2] 38 (0, 0)) := by
    rw [hW6]
    exact ((below_alloc (Below.refl _ _) _).block W5.heap.size (by simp)).trans (heap_alloc_new W5 _)
  have hr10 : W6.heap[W5.heap.size + 1]? = some (.cells #[.bool true, .bool false, .bool true, .bool false] 85 (0, 0)) := by
    have e1 := heap_alloc_new (W5.alloc (.cells #[.int .i64 3, .int .i64 s1, .int .i64 s2] 38)) (.cells #[.bool true, .bool false, .bool true, .bool false] 85)
    rw [show (W5.alloc (.cells #[.int .i64 3, .int .i64 s1, .int .i64 s2] 38)).heap.size = W5.heap.size + 1 from by simp] at e1
    rw [hW6]
    exact e1
  have HM := Aside0.mk (show bookAt W6 w.heap.size t _ _ false ∧ W6.heap[w.heap.size + 1]? = some (.cells #[.int .i64 1, .int .i64 b] 29 (0, 0)) ∧ W6.heap[w.heap.size + 1 + 1]? = some (.cells #[.int .i64 0, .slice none 0 0, .slice none 0 0, .bool false] 24 (0, 0)) ∧ Below w.heap.size w W6 ∧ w.heap.size + 3 ≤ W5.heap.size from ⟨HG.out.1.below hb6 HG.out.1.lt, (hb6.block _ (by have := HG.out.2.2.2.2; omega)).trans HG.out.2.1, (hb6.block _ (by have := HG.out.2.2.2.2; omega)).trans HG.out.2.2.1, below_step HG.out.2.2.2.1 hb6, HG.out.2.2.2.2⟩)
  have HSZ := Aside0.mk hsz6
  have hz3 := HM.out.1.c3
  have hz1 := HM.out.1.c1
  have ht0 : W6.cell? ⟨w.heap.size + 1, 0, none⟩ = some (.int .i64 1) := (blk_cell HM.out.2.1 0).trans rfl
  have hm0 : W6.cell? ⟨W5.heap.size, 0, none⟩ = some (.int .i64 3) := (blk_cell hr9 0).trans rfl
  have hm1 : W6.cell? ⟨W5.heap.size, 1, none⟩ = some (.int .i64 s1) := (blk_cell hr9 1).trans rfl
  have hy0 : W6.cell? ⟨W5.heap.size + 1, 0, none⟩ = some (.bool true) := (blk_cell hr10 0).trans rfl
  have hy1 : W6.cell? ⟨W5.heap.size + 1, 1, none⟩ = some (.bool false) := (blk_cell hr10 1).trans rfl
  have hy2 : W6.cell? ⟨W5.heap.size + 1, 2, none⟩ = some (.bool true) := (blk_cell hr10 2).trans rfl
  have hy3 : W6.cell? ⟨W5.heap.size + 1, 3, none⟩ = some (.bool false) := (blk_cell hr10 3).trans rfl
  clear hW6 hsz6 HG hb6
  have HR9 := Aside0.mk hr9
  clear hr9 hr10
  have hc0 : W6.cell? ⟨w.heap.size + 1 + 1, 0, none⟩ = some (.int .i64 0) := (blk_cell HM.out.2.2.1 0).trans rfl
  have hc1 : W6.cell? ⟨w.heap.size + 1 + 1, 1, none⟩ = some (.slice none 0 0) := (blk_cell HM.out.2.2.1 1).trans rfl
  have hc2 : W6.cell? ⟨w.heap.size + 1 + 1, 2, none⟩ = some (.slice none 0 0) := (blk_cell HM.out.2.2.1 2).trans rfl
  have hc3 : W6.cell? ⟨w.heap.size + 1 + 1, 3, none⟩ = some (.bool false) := (blk_cell HM.out.2.2.1 3).trans rfl
  have hf0 : W6.frozen? ⟨w.heap.size + 1 + 1, 0, none⟩ = false := frozen_of_row _ _ _ _ _ HM.out.2.2.1
  have hf1 : W6.frozen? ⟨w.heap.size + 1 + 1, 1, none⟩ = false := frozen_of_row _ _ _ _ _ HM.out.2.2.1
  have hf2 : W6.frozen? ⟨w.heap.size + 1 + 1, 2, none⟩ = false := frozen_of_row _ _ _ _ _ HM.out.2.2.1
  have hf3 : W6.frozen? ⟨w.heap.size + 1 + 1, 3, none⟩ = false := frozen_of_row _ _ _ _ _ HM.out.2.2.1
  go_wp2_with fail
  refine bodyPost_ret (results_list (rs := [.cell 4 24, .tmp 5, .tmp 6, .tmp 7]) rfl (by simp) (.cell (w.heap.size + 1 + 1) 24 #[.int .i64 0, .slice none 0 0, .slice none 0 0, .bool false] (0, 0) _ rfl (by refine blk_put (cs := #[.int .i64 0, .slice none 0 0, .slice none 0 0, .bool false]) ?_ 3 _ rfl; refine blk_put (cs := #[.int .i64 0, .slice none 0 0, .slice none 0 0, .bool false]) ?_ 2 _ rfl; refine blk_put (cs := #[.int .i64 0, .slice none 0 0, .slice none 0 0, .bool false]) ?_ 1 _ rfl; refine blk_put (cs := #[.int .i64 0, .slice none 0 0, .slice none 0 0, .bool false]) ?_ 0 _ rfl; exact HM.out.2.2.1) Tryd.underlying24 rfl (by kernel_rfl) (.tmp (.tmp (.tmp .nil))))) rfl ?_
  exact ⟨rfl, (((HM.out.2.2.2.1.setCell (by simp; omega) _).setCell (by simp; omega) _).setCell (by simp; omega) _).setCell (by simp; omega) _⟩

set_option maxHeartbeats 4000000 in
set_option maxRecDepth 100000 in
theorem begin_notall0_red (t : Int) (A0 : Option Addr) (c0 : Nat) (l0 : List S38) (A1 : Option Addr) (c1 : Nat) (l1 : List S38) (b : Nat) (w : World)
    (h0 : Kd.C k38 w A0 l0.length l0) (hcap0 : l0.length ≤ c0) (h1 : Kd.C k38 w A1 l1.length l1) (hl0 : l0.length ≤ 6000000000000) (hl1 : l1.length ≤ 6000000000000) (hT : Tab w) (he : knownP t l0 l1 false [⟨1, b⟩] = 0) (hb : b < l1.length) (hst : (rd_T38 l1 (b : Int)).f0 = 0) (kf : Nat) (hall : ledger_all.f kf l0 = some false) :
    Calls Tryd.prog 28 #[.agg #[.int .i64 t, .slice A0 l0.length c0, .slice A1 l1.length c1, .bool false], .agg #[.int .i64 1, .int .i64 b]] w fun e_ w' => e_ = .returned (.tuple #[.agg #[.int .i64 0, .slice none 0 0, .slice none 0 0, .bool false], .int .i64 0, .bool false, .int .i64 192]) ∧ Below w.heap.size w w' := by
  have hl3 := lays3_of w t (.slice A0 l0.length c0) (.slice A1 l1.length c1) false 1 b
  have hba : Below w.heap.size w ((w3of w t (.slice A0 l0.length c0) (.slice A1 l1.length c1) false 1 b).alloc (.cells #[.int .i64 1, .int .i64 b] 29)) := below_alloc hl3.q0 _
  have hkn := known_any t false A0 c0 l0 A1 c1 l1 (some ⟨(w3of w t (.slice A0 l0.length c0) (.slice A1 l1.length c1) false 1 b).heap.size, 0, none⟩) 1 [⟨1, b⟩] ((w3of w t (.slice A0 l0.length c0) (.slice A1 l1.length c1) false 1 b).alloc (.cells #[.int .i64 1, .int .i64 b] 29)) (Kd.C_below h0 hba) (Kd.C_below h1 hba) (C_one (w3of w t (.slice A0 l0.length c0) (.slice A1 l1.length c1) false 1 b) 1 b) (by simp) hl0 hl1 (hT.below hba)
  rw [he] at hkn
  have H0 := Aside0.mk h0
  have H1 := Aside0.mk h1
  have HCP := Aside0.mk hcap0
  obtain ⟨W3, hW3⟩ : ∃ W3, (w3of w t (.slice A0 l0.length c0) (.slice A1 l1.length c1) false 1 b) = W3 := ⟨_, rfl⟩
  rw [hW3] at hl3 hba hkn
  unfold w3of at hW3
  have HW3 := Aside0.mk hW3
  have HL := Aside0.mk hl3
  have HKN := Aside0.mk hkn
  have ha := below_alloc (Below.refl W3.heap.size W3) (.cells #[.int .i64 1, .int .i64 b] 29)
  have HBA := Aside0.mk ha
  clear hba hkn h0 h1 he hl3 hT hl0 hl1 ha hW3 hcap0
  have hu22 := Tryd.underlying22
  have hu29 := Tryd.underlying29
  have hu24 := Tryd.underlying24
  have hu38 := Tryd.underlying38
  have hu26 := Tryd.underlying26
  have hu85 := Tryd.underlying85
  have hz0 := HL.out.q2.c0
  have hz1 := HL.out.q2.c1
  have hz2 := HL.out.q2.c2
  have hz3 := HL.out.q2.c3
  have hy0 : W3.cell? ⟨w.heap.size + 1, 0, none⟩ = some (.int .i64 1) := (blk_cell HL.out.q3 0).trans rfl
  have hy1 : W3.cell? ⟨w.heap.size + 1, 1, none⟩ = some (.int .i64 b) := (blk_cell HL.out.q3 1).trans rfl
  obtain ⟨ad, ea, hx0, hx1, hx2⟩ := at_T38 H1.out (b : Int) (by omega) (by omega)
  subst ea
  rw [Int.toNat_natCast] at hx0 hx1 hx2
  obtain ⟨⟨sa, s1, s2⟩, hs⟩ : ∃ s, rd_T38 l1 (b : Int) = s := ⟨_, rfl⟩
  rw [hs] at hx0 hx1 hx2 hst
  dsimp only at *
  subst hst
  have HX := Aside0.mk (And.intro hx0 (And.intro hx1 hx2))
  have HS := Aside0.mk hs
  have HBI := Aside0.mk hb
  clear hx0 hx1 hx2 hs hb
  go_enter Tryd.func28, Tryd.ntmps28
  go_upto_region 1 with (fail)
  rw [HW3.out]
  clear HW3
  go_upto_region 6 with (first | (go_at_call 54; go_must (refine HKN.out.mono ?_; rintro e_ W4 ⟨rfl, hB4⟩; have HF := Aside0.mk (HL.out.below (below_step HBA.out hB4)); clear hB4 HL HKN HBA hz0 hz1 hz2 hz3 hy0 hy1; have hv0 : W4.cell? ⟨w.heap.size + 1, 0, none⟩ = some (.int .i64 1) := (blk_cell HF.out.2.1 0).trans rfl; have hv1 : W4.cell? ⟨w.heap.size + 1, 1, none⟩ = some (.int .i64 b) := (blk_cell HF.out.2.1 1).trans rfl)) | (go_at_call 55; go_must (refine (state_red W4 w.heap.size t ad _ _ _ false b HF.out.1 (by omega) (by have := HBI.out; omega)).mono ?_; rintro e_ W5 ⟨rfl, hB5⟩; have HG := Aside0.mk (show bookAt W5 w.heap.size t _ _ false ∧ W5.heap[w.heap.size + 1]? = some (.cells #[.int .i64 1, .int .i64 b] 29 (0, 0)) ∧ W5.heap[w.heap.size + 1 + 1]? = some (.cells #[.int .i64 0, .slice none 0 0, .slice none 0 0, .bool false] 24 (0, 0)) ∧ Below w.heap.size w W5 ∧ w.heap.size + 3 ≤ W5.heap.size from ⟨HF.out.1.below hB5 HF.out.1.lt, (hB5.block _ (by have := HF.out.2.2.2.2; omega)).trans HF.out.2.1, (hB5.block _ (by have := HF.out.2.2.2.2; omega)).trans HF.out.2.2.1, below_step HF.out.2.2.2.1 hB5, by have := hB5.size; have := HF.out.2.2.2.2; omega⟩); clear hB5 HF hv0 hv1; have hx0 := (HG.out.2.2.2.1.cell (World.block_lt_of_cell? w _ HX.out.1)).trans HX.out.1; have hx1 := (HG.out.2.2.2.1.cell (World.block_lt_of_cell? w _ HX.out.2.1)).trans HX.out.2.1; have hx2 := (HG.out.2.2.2.1.cell (World.block_lt_of_cell? w _ HX.out.2.2)).trans HX.out.2.2)))
  clear hx0 hx1 hx2
  obtain ⟨W6, hW6⟩ : ∃ W6, W6 = (W5.alloc (.cells #[.int .i64 0, .int .i64 s1, .int .i64 s2] 38)).alloc (.cells #[.bool true, .bool false, .bool true, .bool false] 85) := ⟨_, rfl⟩
  rw [← hW6]
  have hb6 : Below W5.heap.size W5 W6 := by rw [hW6]; exact below_alloc (below_alloc (Below.refl _ _) _) _
  have hsz6 : W6.heap.size = W5.heap.size + 1 + 1 := by rw [hW6]; simp
  have hr9 : W6.heap[W5.heap.size]? = some (.cells #[.int .i64 0, .int .i64 s1, .int .i64 s2] 38 (0, 0)) := by
    rw [hW6]
    exact ((below_alloc (Below.refl _ _) _).block W5.heap.size (by simp)).trans (heap_alloc_new W5 _)
  have hr10 : W6.heap[W5.heap.size + 1]? = some (.cells #[.bool true, .bool false, .bool true, .bool false] 85 (0, 0)) := by
    have e1 := heap_alloc_new (W5.alloc (.cells #[.int .i64 0, .int .i64 s1, .int .i64 s2] 38)) (.cells #[.bool true, .bool false, .bool true, .bool false] 85)
    rw [show (W5.alloc (.cells #[.int .i64 0, .int .i64 s1, .int .i64 s2] 38)).heap.size = W5.heap.size + 1 from by simp] at e1
    rw [hW6]
    exact e1
  have HM := Aside0.mk (show bookAt W6 w.heap.size t _ _ false ∧ W6.heap[w.heap.size + 1]? = some (.cells #[.int .i64 1, .int .i64 b] 29 (0, 0)) ∧ W6.heap[w.heap.size + 1 + 1]? = some (.cells #[.int .i64 0, .slice none 0 0, .slice none 0 0, .bool false] 24 (0, 0)) ∧ Below w.heap.size w W6 ∧ w.heap.size + 3 ≤ W5.heap.size from ⟨HG.out.1.below hb6 HG.out.1.lt, (hb6.block _ (by have := HG.out.2.2.2.2; omega)).trans HG.out.2.1, (hb6.block _ (by have := HG.out.2.2.2.2; omega)).trans HG.out.2.2.1, below_step HG.out.2.2.2.1 hb6, HG.out.2.2.2.2⟩)
  have HSZ := Aside0.mk hsz6
  have hz3 := HM.out.1.c3
  have hz1 := HM.out.1.c1
  have ht0 : W6.cell? ⟨w.heap.size + 1, 0, none⟩ = some (.int .i64 1) := (blk_cell HM.out.2.1 0).trans rfl
  have hm0 : W6.cell? ⟨W5.heap.size, 0, none⟩ = some (.int .i64 0) := (blk_cell hr9 0).trans rfl
  have hm1 : W6.cell? ⟨W5.heap.size, 1, none⟩ = some (.int .i64 s1) := (blk_cell hr9 1).trans rfl
  have hy0 : W6.cell? ⟨W5.heap.size + 1, 0, none⟩ = some (.bool true) := (blk_cell hr10 0).trans rfl
  have hy1 : W6.cell? ⟨W5.heap.size + 1, 1, none⟩ = some (.bool false) := (blk_cell hr10 1).trans rfl
  have hy2 : W6.cell? ⟨W5.heap.size + 1, 2, none⟩ = some (.bool true) := (blk_cell hr10 2).trans rfl
  have hy3 : W6.cell? ⟨W5.heap.size + 1, 3, none⟩ = some (.bool false) := (blk_cell hr10 3).trans rfl
  clear hW6 hsz6 HG hb6
  have HAL := Aside0.mk (ledger_all.calls kf A0 c0 l0 false W6 (Kd.C_below H0.out HM.out.2.2.2.1) HCP.out hall)
  have HR9 := Aside0.mk hr9
  clear hall hr9 hr10
  go_wp2_with (go_at_call 40; go_must (refine HAL.out.mono ?_; rintro e_ W7 ⟨rfl, hB7⟩; have HM7 := Aside0.mk (show bookAt W7 w.heap.size t _ _ false ∧ W7.heap[w.heap.size + 1]? = some (.cells #[.int .i64 1, .int .i64 b] 29 (0, 0)) ∧ W7.heap[w.heap.size + 1 + 1]? = some (.cells #[.int .i64 0, .slice none 0 0, .slice none 0 0, .bool false] 24 (0, 0)) ∧ Below w.heap.size w W7 ∧ w.heap.size + 3 ≤ W7.heap.size from ⟨HM.out.1.below hB7 HM.out.1.lt, (hB7.block _ (by have := HM.out.2.2.2.2; have := HSZ.out; omega)).trans HM.out.2.1, (hB7.block _ (by have := HM.out.2.2.2.2; have := HSZ.out; omega)).trans HM.out.2.2.1, below_step HM.out.2.2.2.1 hB7, by have := hB7.size; have := HM.out.2.2.2.2; have := HSZ.out; omega⟩); have hr9 := (hB7.block _ (by have := HSZ.out; omega)).trans HR9.out; have hm0 : W7.cell? ⟨W5.heap.size, 0, none⟩ = some (.int .i64 0) := (blk_cell hr9 0).trans rfl; have hm1 : W7.cell? ⟨W5.heap.size, 1, none⟩ = some (.int .i64 s1) := (blk_cell hr9 1).trans rfl; clear hB7 HM HAL hr9 HR9; have hc0 : W7.cell? ⟨w.heap.size + 1 + 1, 0, none⟩ = some (.int .i64 0) := (blk_cell HM7.out.2.2.1 0).trans rfl; have hc1 : W7.cell? ⟨w.heap.size + 1 + 1, 1, none⟩ = some (.slice none 0 0) := (blk_cell HM7.out.2.2.1 1).trans rfl; have hc2 : W7.cell? ⟨w.heap.size + 1 + 1, 2, none⟩ = some (.slice none 0 0) := (blk_cell HM7.out.2.2.1 2).trans rfl; have hc3 : W7.cell? ⟨w.heap.size + 1 + 1, 3, none⟩ = some (.bool false) := (blk_cell HM7.out.2.2.1 3).trans rfl; have hf0 : W7.frozen? ⟨w.heap.size + 1 + 1, 0, none⟩ = false := frozen_of_row _ _ _ _ _ HM7.out.2.2.1; have hf1 : W7.frozen? ⟨w.heap.size + 1 + 1, 1, none⟩ = false := frozen_of_row _ _ _ _ _ HM7.out.2.2.1; have hf2 : W7.frozen? ⟨w.heap.size + 1 + 1, 2, none⟩ = false := frozen_of_row _ _ _ _ _ HM7.out.2.2.1; have hf3 : W7.frozen? ⟨w.heap.size + 1 + 1, 3, none⟩ = false := frozen_of_row _ _ _ _ _ HM7.out.2.2.1))
  refine bodyPost_ret (results_list (rs := [.cell 4 24, .tmp 5, .tmp 6, .tmp 7]) rfl (by simp) (.cell (w.heap.size + 1 + 1) 24 #[.int .i64 0, .slice none 0 0, .slice none 0 0, .bool false] (0, 0) _ rfl (by refine blk_put (cs := #[.int .i64 0, .slice none 0 0, .slice none 0 0, .bool false]) ?_ 3 _ rfl; refine blk_put (cs := #[.int .i64 0, .slice none 0 0, .slice none 0 0, .bool false]) ?_ 2 _ rfl; refine blk_put (cs := #[.int .i64 0, .slice none 0 0, .slice none 0 0, .bool false]) ?_ 1 _ rfl; refine blk_put (cs := #[.int .i64 0, .slice none 0 0, .slice none 0 0, .bool false]) ?_ 0 _ rfl; exact HM7.out.2.2.1) Tryd.underlying24 rfl (by kernel_rfl) (.tmp (.tmp (.tmp .nil))))) rfl ?_
  exact ⟨rfl, (((HM7.out.2.2.2.1.setCell (by simp; omega) _).setCell (by simp; omega) _).setCell (by simp; omega) _).setCell (by simp; omega) _⟩

set_option maxHeartbeats 4000000 in
set_option maxRecDepth 100000 in
theorem begin_notall2_red (t : Int) (A0 : Option Addr) (c0 : Nat) (l0 : List S38) (A1 : Option Addr) (c1 : Nat) (l1 : List S38) (b : Nat) (w : World)
    (h0 : Kd.C k38 w A0 l0.length l0) (hcap0 : l0.length ≤ c0) (h1 : Kd.C k38 w A1 l1.length l1) (hl0 : l0.length ≤ 6000000000000) (hl1 : l1.length ≤ 6000000000000) (hT : Tab w) (he : knownP t l0 l1 false [⟨1, b⟩] = 0) (hb : b < l1.length) (hst : (rd_T38 l1 (b : Int)).f0 = 2) (kf : Nat) (hall : ledger_all.f kf l0 = some false) :
    Calls Tryd.prog 28 #[.agg #[.int .i64 t, .slice A0 l0.length c0, .slice A1 l1.length c1, .bool false], .agg #[.int .i64 1, .int .i64 b]] w fun e_ w' => e_ = .returned (.tuple #[.agg #[.int .i64 0, .slice none 0 0, .slice none 0 0, .bool false], .int .i64 0, .bool false, .int .i64 192]) ∧ Below w.heap.size w w' := by
  have hl3 := lays3_of w t (.slice A0 l0.length c0) (.slice A1 l1.length c1) false 1 b
  have hba : Below w.heap.size w ((w3of w t (.slice A0 l0.length c0) (.slice A1 l1.length c1) false 1 b).alloc (.cells #[.int .i64 1, .int .i64 b] 29)) := below_alloc hl3.q0 _
  have hkn := known_any t false A0 c0 l0 A1 c1 l1 (some ⟨(w3of w t (.slice A0 l0.length c0) (.slice A1 l1.length c1) false 1 b).heap.size, 0, none⟩) 1 [⟨1, b⟩] ((w3of w t (.slice A0 l0.length c0) (.slice A1 l1.length c1) false 1 b).alloc (.cells #[.int .i64 1, .int .i64 b] 29)) (Kd.C_below h0 hba) (Kd.C_below h1 hba) (C_one (w3of w t (.slice A0 l0.length c0) (.slice A1 l1.length c1) false 1 b) 1 b) (by simp) hl0 hl1 (hT.below hba)
  rw [he] at hkn
  have H0 := Aside0.mk h0
  have H1 := Aside0.mk h1
  have HCP := Aside0.mk hcap0
  obtain ⟨W3, hW3⟩ : ∃ W3, (w3of w t (.slice A0 l0.length c0) (.slice A1 l1.length c1) false 1 b) = W3 := ⟨_, rfl⟩
  rw [hW3] at hl3 hba hkn
  unfold w3of at hW3
  have HW3 := Aside0.mk hW3
  have HL := Aside0.mk hl3
  have HKN := Aside0.mk hkn
  have ha := below_alloc (Below.refl W3.heap.size W3) (.cells #[.int .i64 1, .int .i64 b] 29)
  have HBA := Aside0.mk ha
  clear hba hkn h0 h1 he hl3 hT hl0 hl1 ha hW3 hcap0
  have hu22 := Tryd.underlying22
  have hu29 := Tryd.underlying29
  have hu24 := Tryd.underlying24
  have hu38 := Tryd.underlying38
  have hu26 := Tryd.underlying26
  have hu85 := Tryd.underlying85
  have hz0 := HL.out.q2.c0
  have hz1 := HL.out.q2.c1
  have hz2 := HL.out.q2.c2
  have hz3 := HL.out.q2.c3
  have hy0 : W3.cell? ⟨w.heap.size + 1, 0, none⟩ = some (.int .i64 1) := (blk_cell HL.out.q3 0).trans rfl
  have hy1 : W3.cell? ⟨w.heap.size + 1, 1, none⟩ = some (.int .i64 b) := (blk_cell HL.out.q3 1).trans rfl
  obtain ⟨ad, ea, hx0, hx1, hx2⟩ := at_T38 H1.out (b : Int) (by omega) (by omega)
  subst ea
  rw [Int.toNat_natCast] at hx0 hx1 hx2
  obtain ⟨⟨sa, s1, s2⟩, hs⟩ : ∃ s, rd_T38 l1 (b : Int) = s := ⟨_, rfl⟩
  rw [hs] at hx0 hx1 hx2 hst
  dsimp only at *
  subst hst
  have HX := Aside0.mk (And.intro hx0 (And.intro hx1 hx2))
  have HS := Aside0.mk hs
  have HBI := Aside0.mk hb
  clear hx0 hx1 hx2 hs hb
  go_enter Tryd.func28, Tryd.ntmps28
  go_upto_region 1 with (fail)
  rw [HW3.out]
  clear HW3
  go_upto_region 6 with (first | (go_at_call 54; go_must (refine HKN.out.mono ?_; rintro e_ W4 ⟨rfl, hB4⟩; have HF := Aside0.mk (HL.out.below (below_step HBA.out hB4)); clear hB4 HL HKN HBA hz0 hz1 hz2 hz3 hy0 hy1; have hv0 : W4.cell? ⟨w.heap.size + 1, 0, none⟩ = some (.int .i64 1) := (blk_cell HF.out.2.1 0).trans rfl; have hv1 : W4.cell? ⟨w.heap.size + 1, 1, none⟩ = some (.int .i64 b) := (blk_cell HF.out.2.1 1).trans rfl)) | (go_at_call 55; go_must (refine (state_red W4 w.heap.size t ad _ _ _ false b HF.out.1 (by omega) (by have := HBI.out; omega)).mono ?_; rintro e_ W5 ⟨rfl, hB5⟩; have HG := Aside0.mk (show bookAt W5 w.heap.size t _ _ false ∧ W5.heap[w.heap.size + 1]? = some (.cells #[.int .i64 1, .int .i64 b] 29 (0, 0)) ∧ W5.heap[w.heap.size + 1 + 1]? = some (.cells #[.int .i64 0, .slice none 0 0, .slice none 0 0, .bool false] 24 (0, 0)) ∧ Below w.heap.size w W5 ∧ w.heap.size + 3 ≤ W5.heap.size from ⟨HF.out.1.below hB5 HF.out.1.lt, (hB5.block _ (by have := HF.out.2.2.2.2; omega)).trans HF.out.2.1, (hB5.block _ (by have := HF.out.2.2.2.2; omega)).trans HF.out.2.2.1, below_step HF.out.2.2.2.1 hB5, by have := hB5.size; have := HF.out.2.2.2.2; omega⟩); clear hB5 HF hv0 hv1; have hx0 := (HG.out.2.2.2.1.cell (World.block_lt_of_cell? w _ HX.out.1)).trans HX.out.1; have hx1 := (HG.out.2.2.2.1.cell (World.block_lt_of_cell? w _ HX.out.2.1)).trans HX.out.2.1; have hx2 := (HG.out.2.2.2.1.cell (World.block_lt_of_cell? w _ HX.out.2.2)).trans HX.out.2.2)))
  clear hx0 hx1 hx2
  obtain ⟨W6, hW6⟩ : ∃ W6, W6 = (W5.alloc (.cells #[.int .i64 2, .int .i64 s1, .int .i64 s2] 38)).alloc (.cells #[.bool true, .bool false, .bool true, .bool false] 85) := ⟨_, rfl⟩
  rw [← hW6]
  have hb6 : Below W5.heap.size W5 W6 := by rw [hW6]; exact below_alloc (below_alloc (Below.refl _ _) _) _
  have hsz6 : W6.heap.size = W5.heap.size + 1 + 1 := by rw [hW6]; simp
  have hr9 : W6.heap[W5.heap.size]? = some (.cells #[.int .i64 2, .int .i64 s1, .int .i64 s2] 38 (0, 0)) := by
    rw [hW6]
    exact ((below_alloc (Below.refl _ _) _).block W5.heap.size (by simp)).trans (heap_alloc_new W5 _)
  have hr10 : W6.heap[W5.heap.size + 1]? = some (.cells #[.bool true, .bool false, .bool true, .bool false] 85 (0, 0)) := by
    have e1 := heap_alloc_new (W5.alloc (.cells #[.int .i64 2, .int .i64 s1, .int .i64 s2] 38)) (.cells #[.bool true, .bool false, .bool true, .bool false] 85)
    rw [show (W5.alloc (.cells #[.int .i64 2, .int .i64 s1, .int .i64 s2] 38)).heap.size = W5.heap.size + 1 from by simp] at e1
    rw [hW6]
    exact e1
  have HM := Aside0.mk (show bookAt W6 w.heap.size t _ _ false ∧ W6.heap[w.heap.size + 1]? = some (.cells #[.int .i64 1, .int .i64 b] 29 (0, 0)) ∧ W6.heap[w.heap.size + 1 + 1]? = some (.cells #[.int .i64 0, .slice none 0 0, .slice none 0 0, .bool false] 24 (0, 0)) ∧ Below w.heap.size w W6 ∧ w.heap.size + 3 ≤ W5.heap.size from ⟨HG.out.1.below hb6 HG.out.1.lt, (hb6.block _ (by have := HG.out.2.2.2.2; omega)).trans HG.out.2.1, (hb6.block _ (by have := HG.out.2.2.2.2; omega)).trans HG.out.2.2.1, below_step HG.out.2.2.2.1 hb6, HG.out.2.2.2.2⟩)
  have HSZ := Aside0.mk hsz6
  have hz3 := HM.out.1.c3
  have hz1 := HM.out.1.c1
  have ht0 : W6.cell? ⟨w.heap.size + 1, 0, none⟩ = some (.int .i64 1) := (blk_cell HM.out.2.1 0).trans rfl
  have hm0 : W6.cell? ⟨W5.heap.size, 0, none⟩ = some (.int .i64 2) := (blk_cell hr9 0).trans rfl
  have hm1 : W6.cell? ⟨W5.heap.size, 1, none⟩ = some (.int .i64 s1) := (blk_cell hr9 1).trans rfl
  have hy0 : W6.cell? ⟨W5.heap.size + 1, 0, none⟩ = some (.bool true) := (blk_cell hr10 0).trans rfl
  have hy1 : W6.cell? ⟨W5.heap.size + 1, 1, none⟩ = some (.bool false) := (blk_cell hr10 1).trans rfl
  have hy2 : W6.cell? ⟨W5.heap.size + 1, 2, none⟩ = some (.bool true) := (blk_cell hr10 2).trans rfl
  have hy3 : W6.cell? ⟨W5.heap.size + 1, 3, none⟩ = some (.bool false) := (blk_cell hr10 3).trans rfl
  clear hW6 hsz6 HG hb6
  have HAL := Aside0.mk (ledger_all.calls kf A0 c0 l0 false W6 (Kd.C_below H0.out HM.out.2.2.2.1) HCP.out hall)
  have HR9 := Aside0.mk hr9
  clear hall hr9 hr10
  go_wp2_with (go_at_call 40; go_must (refine HAL.out.mono ?_; rintro e_ W7 ⟨rfl, hB7⟩; have HM7 := Aside0.mk (show bookAt W7 w.heap.size t _ _ false ∧ W7.heap[w.heap.size + 1]? = some (.cells #[.int .i64 1, .int .i64 b] 29 (0, 0)) ∧ W7.heap[w.heap.size + 1 + 1]? = some (.cells #[.int .i64 0, .slice none 0 0, .slice none 0 0, .bool false] 24 (0, 0)) ∧ Below w.heap.size w W7 ∧ w.heap.size + 3 ≤ W7.heap.size from ⟨HM.out.1.below hB7 HM.out.1.lt, (hB7.block _ (by have := HM.out.2.2.2.2; have := HSZ.out; omega)).trans HM.out.2.1, (hB7.block _ (by have := HM.out.2.2.2.2; have := HSZ.out; omega)).trans HM.out.2.2.1, below_step HM.out.2.2.2.1 hB7, by have := hB7.size; have := HM.out.2.2.2.2; have := HSZ.out; omega⟩); have hr9 := (hB7.block _ (by have := HSZ.out; omega)).trans HR9.out; have hm0 : W7.cell? ⟨W5.heap.size, 0, none⟩ = some (.int .i64 2) := (blk_cell hr9 0).trans rfl; have hm1 : W7.cell? ⟨W5.heap.size, 1, none⟩ = some (.int .i64 s1) := (blk_cell hr9 1).trans rfl; clear hB7 HM HAL hr9 HR9; have hc0 : W7.cell? ⟨w.heap.size + 1 + 1, 0, none⟩ = some (.int .i64 0) := (blk_cell HM7.out.2.2.1 0).trans rfl; have hc1 : W7.cell? ⟨w.heap.size + 1 + 1, 1, none⟩ = some (.slice none 0 0) := (blk_cell HM7.out.2.2.1 1).trans rfl; have hc2 : W7.cell? ⟨w.heap.size + 1 + 1, 2, none⟩ = some (.slice none 0 0) := (blk_cell HM7.out.2.2.1 2).trans rfl; have hc3 : W7.cell? ⟨w.heap.size + 1 + 1, 3, none⟩ = some (.bool false) := (blk_cell HM7.out.2.2.1 3).trans rfl; have hf0 : W7.frozen? ⟨w.heap.size + 1 + 1, 0, none⟩ = false := frozen_of_row _ _ _ _ _ HM7.out.2.2.1; have hf1 : W7.frozen? ⟨w.heap.size + 1 + 1, 1, none⟩ = false := frozen_of_row _ _ _ _ _ HM7.out.2.2.1; have hf2 : W7.frozen? ⟨w.heap.size + 1 + 1, 2, none⟩ = false := frozen_of_row _ _ _ _ _ HM7.out.2.2.1; have hf3 : W7.frozen? ⟨w.heap.size + 1 + 1, 3, none⟩ = false := frozen_of_row _ _ _ _ _ HM7.out.2.2.1))
  refine bodyPost_ret (results_list (rs := [.cell 4 24, .tmp 5, .tmp 6, .tmp 7]) rfl (by simp) (.cell (w.heap.size + 1 + 1) 24 #[.int .i64 0, .slice none 0 0, .slice none 0 0, .bool false] (0, 0) _ rfl (by refine blk_put (cs := #[.int .i64 0, .slice none 0 0, .slice none 0 0, .bool false]) ?_ 3 _ rfl; refine blk_put (cs := #[.int .i64 0, .slice none 0 0, .slice none 0 0, .bool false]) ?_ 2 _ rfl; refine blk_put (cs := #[.int .i64 0, .slice none 0 0, .slice none 0 0, .bool false]) ?_ 1 _ rfl; refine blk_put (cs := #[.int .i64 0, .slice none 0 0, .slice none 0 0, .bool false]) ?_ 0 _ rfl; exact HM7.out.2.2.1) Tryd.underlying24 rfl (by kernel_rfl) (.tmp (.tmp (.tmp .nil))))) rfl ?_
  exact ⟨rfl, (((HM7.out.2.2.2.1.setCell (by simp; omega) _).setCell (by simp; omega) _).setCell (by simp; omega) _).setCell (by simp; omega) _⟩

set_option maxHeartbeats 4000000 in
set_option maxRecDepth 100000 in
theorem begin_fresh_red (t : Int) (A0 : Option Addr) (c0 : Nat) (l0 : List S38) (A1 : Option Addr) (c1 : Nat) (l1 : List S38) (b : Nat) (w : World)
    (h0 : Kd.C k38 w A0 l0.length l0) (hcap0 : l0.length ≤ c0) (h1 : Kd.C k38 w A1 l1.length l1) (hl0 : l0.length ≤ 6000000000000) (hl1 : l1.length ≤ 6000000000000) (hT : Tab w) (he : knownP t l0 l1 false [⟨1, b⟩] = 0) (hb : b < l1.length) (hst : (rd_T38 l1 (b : Int)).f0 = 0) (kf : Nat) (hall : ledger_all.f kf l0 = some true) (hl0' : l0.length ≤ 100000) (hl1' : l1.length ≤ 100000) (hsm : 0 ≤ (rd_T38 l1 (b : Int)).f1 ∧ (rd_T38 l1 (b : Int)).f1 ≤ 1000) :
    Calls Tryd.prog 28 #[.agg #[.int .i64 t, .slice A0 l0.length c0, .slice A1 l1.length c1, .bool false], .agg #[.int .i64 1, .int .i64 b]] w fun e_ w' => ∃ v1 v2 : Value, e_ = .returned (.tuple #[.agg #[.int .i64 t, v1, v2, .bool false], .int .i64 ((rd_T38 l1 (b : Int)).f1 + 1), .bool true, .int .i64 0]) ∧ Kd.R k38 38 w' w.heap.size (fun k => some k ≠ v2.ownBlock) v1 l0 ∧ Kd.R k38 38 w' w.heap.size (fun k => some k ≠ v1.ownBlock) v2 (l1.set b ⟨1, (rd_T38 l1 (b : Int)).f1 + 1, (rd_T38 l1 (b : Int)).f2⟩) ∧ Below w.heap.size w w' := by
  have hl3 := lays3_of w t (.slice A0 l0.length c0) (.slice A1 l1.length c1) false 1 b
  have hba : Below w.heap.size w ((w3of w t (.slice A0 l0.length c0) (.slice A1 l1.length c1) false 1 b).alloc (.cells #[.int .i64 1, .int .i64 b] 29)) := below_alloc hl3.q0 _
  have hkn := known_any t false A0 c0 l0 A1 c1 l1 (some ⟨(w3of w t (.slice A0 l0.length c0) (.slice A1 l1.length c1) false 1 b).heap.size, 0, none⟩) 1 [⟨1, b⟩] ((w3of w t (.slice A0 l0.length c0) (.slice A1 l1.length c1) false 1 b).alloc (.cells #[.int .i64 1, .int .i64 b] 29)) (Kd.C_below h0 hba) (Kd.C_below h1 hba) (C_one (w3of w t (.slice A0 l0.length c0) (.slice A1 l1.length c1) false 1 b) 1 b) (by simp) hl0 hl1 (hT.below hba)
  rw [he] at hkn
  have H0 := Aside0.mk h0
  have H1 := Aside0.mk h1
  have HCP := Aside0.mk hcap0
  obtain ⟨W3, hW3⟩ : ∃ W3, (w3of w t (.slice A0 l0.length c0) (.slice A1 l1.length c1) false 1 b) = W3 := ⟨_, rfl⟩
  rw [hW3] at hl3 hba hkn
  unfold w3of at hW3
  have HW3 := Aside0.mk hW3
  have HL := Aside0.mk hl3
  have HKN := Aside0.mk hkn
  have ha := below_alloc (Below.refl W3.heap.size W3) (.cells #[.int .i64 1, .int .i64 b] 29)
  have HBA := Aside0.mk ha
  clear hba hkn h0 h1 he hl3 hT hl0 hl1 ha hW3 hcap0
  have hu22 := Tryd.underlying22
  have hu29 := Tryd.underlying29
  have hu24 := Tryd.underlying24
  have hu38 := Tryd.underlying38
  have hu26 := Tryd.underlying26
  have hu85 := Tryd.underlying85
  have hz0 := HL.out.q2.c0
  have hz1 := HL.out.q2.c1
  have hz2 := HL.out.q2.c2
  have hz3 := HL.out.q2.c3
  have hy0 : W3.cell? ⟨w.heap.size + 1, 0, none⟩ = some (.int .i64 1) := (blk_cell HL.out.q3 0).trans rfl
  have hy1 : W3.cell? ⟨w.heap.size + 1, 1, none⟩ = some (.int .i64 b) := (blk_cell HL.out.q3 1).trans rfl
  obtain ⟨ad, ea, hx0, hx1, hx2⟩ := at_T38 H1.out (b : Int) (by omega) (by omega)
  subst ea
  rw [Int.toNat_natCast] at hx0 hx1 hx2
  obtain ⟨⟨sa, s1, s2⟩, hs⟩ : ∃ s, rd_T38 l1 (b : Int) = s := ⟨_, rfl⟩
  rw [hs] at hx0 hx1 hx2 hst
  rw [hs] at hsm
  rw [hs]
  dsimp only at *
  subst hst
  have HX := Aside0.mk (And.intro hx0 (And.intro hx1 hx2))
  have HS := Aside0.mk hs
  have HBI := Aside0.mk hb
  clear hx0 hx1 hx2 hs hb
  have hwr : IntKind.i64.wrap (s1 + 1) = s1 + 1 := by rw [i64_w]; unfold wrap64; omega
  clear hsm
  go_enter Tryd.func28, Tryd.ntmps28
  go_upto_region 1 with (fail)
  rw [HW3.out]
  clear HW3
  go_upto_region 6 with (first | (go_at_call 54; go_must (refine HKN.out.mono ?_; rintro e_ W4 ⟨rfl, hB4⟩; have HF := Aside0.mk (HL.out.below (below_step HBA.out hB4)); clear hB4 HL HKN HBA hz0 hz1 hz2 hz3 hy0 hy1; have hv0 : W4.cell? ⟨w.heap.size + 1, 0, none⟩ = some (.int .i64 1) := (blk_cell HF.out.2.1 0).trans rfl; have hv1 : W4.cell? ⟨w.heap.size + 1, 1, none⟩ = some (.int .i64 b) := (blk_cell HF.out.2.1 1).trans rfl)) | (go_at_call 55; go_must (refine (state_red W4 w.heap.size t ad _ _ _ false b HF.out.1 (by omega) (by have := HBI.out; omega)).mono ?_; rintro e_ W5 ⟨rfl, hB5⟩; have HG := Aside0.mk (show bookAt W5 w.heap.size t _ _ false ∧ W5.heap[w.heap.size + 1]? = some (.cells #[.int .i64 1, .int .i64 b] 29 (0, 0)) ∧ W5.heap[w.heap.size + 1 + 1]? = some (.cells #[.int .i64 0, .slice none 0 0, .slice none 0 0, .bool false] 24 (0, 0)) ∧ Below w.heap.size w W5 ∧ w.heap.size + 3 ≤ W5.heap.size from ⟨HF.out.1.below hB5 HF.out.1.lt, (hB5.block _ (by have := HF.out.2.2.2.2; omega)).trans HF.out.2.1, (hB5.block _ (by have := HF.out.2.2.2.2; omega)).trans HF.out.2.2.1, below_step HF.out.2.2.2.1 hB5, by have := hB5.size; have := HF.out.2.2.2.2; omega⟩); clear hB5 HF hv0 hv1; have hx0 := (HG.out.2.2.2.1.cell (World.block_lt_of_cell? w _ HX.out.1)).trans HX.out.1; have hx1 := (HG.out.2.2.2.1.cell (World.block_lt_of_cell? w _ HX.out.2.1)).trans HX.out.2.1; have hx2 := (HG.out.2.2.2.1.cell (World.block_lt_of_cell? w _ HX.out.2.2)).trans HX.out.2.2)))
  clear hx0 hx1 hx2
  obtain ⟨W6, hW6⟩ : ∃ W6, W6 = (W5.alloc (.cells #[.int .i64 0, .int .i64 s1, .int .i64 s2] 38)).alloc (.cells #[.bool true, .bool false, .bool true, .bool false] 85) := ⟨_, rfl⟩
  rw [← hW6]
  have hb6 : Below W5.heap.size W5 W6 := by rw [hW6]; exact below_alloc (below_alloc (Below.refl _ _) _) _
  have hsz6 : W6.heap.size = W5.heap.size + 1 + 1 := by rw [hW6]; simp
  have hr9 : W6.heap[W5.heap.size]? = some (.cells #[.int .i64 0, .int .i64 s1, .int .i64 s2] 38 (0, 0)) := by
    rw [hW6]
    exact ((below_alloc (Below.refl _ _) _).block W5.heap.size (by simp)).trans (heap_alloc_new W5 _)
  have hr10 : W6.heap[W5.heap.size + 1]? = some (.cells #[.bool true, .bool false, .bool true, .bool false] 85 (0, 0)) := by
    have e1 := heap_alloc_new (W5.alloc (.cells #[.int .i64 0, .int .i64 s1, .int .i64 s2] 38)) (.cells #[.bool true, .bool false, .bool true, .bool false] 85)
    rw [show (W5.alloc (.cells #[.int .i64 0, .int .i64 s1, .int .i64 s2] 38)).heap.size = W5.heap.size + 1 from by simp] at e1
    rw [hW6]
    exact e1
  have HM := Aside0.mk (show bookAt W6 w.heap.size t _ _ false ∧ W6.heap[w.heap.size + 1]? = some (.cells #[.int .i64 1, .int .i64 b] 29 (0, 0)) ∧ W6.heap[w.heap.size + 1 + 1]? = some (.cells #[.int .i64 0, .slice none 0 0, .slice none 0 0, .bool false] 24 (0, 0)) ∧ Below w.heap.size w W6 ∧ w.heap.size + 3 ≤ W5.heap.size from ⟨HG.out.1.below hb6 HG.out.1.lt, (hb6.block _ (by have := HG.out.2.2.2.2; omega)).trans HG.out.2.1, (hb6.block _ (by have := HG.out.2.2.2.2; omega)).trans HG.out.2.2.1, below_step HG.out.2.2.2.1 hb6, HG.out.2.2.2.2⟩)
  have HSZ := Aside0.mk hsz6
  have hz3 := HM.out.1.c3
  have hz1 := HM.out.1.c1
  have ht0 : W6.cell? ⟨w.heap.size + 1, 0, none⟩ = some (.int .i64 1) := (blk_cell HM.out.2.1 0).trans rfl
  have hm0 : W6.cell? ⟨W5.heap.size, 0, none⟩ = some (.int .i64 0) := (blk_cell hr9 0).trans rfl
  have hm1 : W6.cell? ⟨W5.heap.size, 1, none⟩ = some (.int .i64 s1) := (blk_cell hr9 1).trans rfl
  have hy0 : W6.cell? ⟨W5.heap.size + 1, 0, none⟩ = some (.bool true) := (blk_cell hr10 0).trans rfl
  have hy1 : W6.cell? ⟨W5.heap.size + 1, 1, none⟩ = some (.bool false) := (blk_cell hr10 1).trans rfl
  have hy2 : W6.cell? ⟨W5.heap.size + 1, 2, none⟩ = some (.bool true) := (blk_cell hr10 2).trans rfl
  have hy3 : W6.cell? ⟨W5.heap.size + 1, 3, none⟩ = some (.bool false) := (blk_cell hr10 3).trans rfl
  clear hW6 hsz6 HG hb6
  have HAL := Aside0.mk (ledger_all.calls kf A0 c0 l0 true W6 (Kd.C_below H0.out HM.out.2.2.2.1) HCP.out hall)
  have HR9 := Aside0.mk hr9
  clear hall hr9 hr10
  go_upto_region 12 with (go_at_call 40; go_must (refine HAL.out.mono ?_; rintro e_ W7 ⟨rfl, hB7⟩; have HM7 := Aside0.mk (show bookAt W7 w.heap.size t _ _ false ∧ W7.heap[w.heap.size + 1]? = some (.cells #[.int .i64 1, .int .i64 b] 29 (0, 0)) ∧ W7.heap[w.heap.size + 1 + 1]? = some (.cells #[.int .i64 0, .slice none 0 0, .slice none 0 0, .bool false] 24 (0, 0)) ∧ Below w.heap.size w W7 ∧ w.heap.size + 3 ≤ W7.heap.size from ⟨HM.out.1.below hB7 HM.out.1.lt, (hB7.block _ (by have := HM.out.2.2.2.2; have := HSZ.out; omega)).trans HM.out.2.1, (hB7.block _ (by have := HM.out.2.2.2.2; have := HSZ.out; omega)).trans HM.out.2.2.1, below_step HM.out.2.2.2.1 hB7, by have := hB7.size; have := HM.out.2.2.2.2; have := HSZ.out; omega⟩); have hr9 := (hB7.block _ (by have := HSZ.out; omega)).trans HR9.out; have hm0 : W7.cell? ⟨W5.heap.size, 0, none⟩ = some (.int .i64 0) := (blk_cell hr9 0).trans rfl; have hm1 : W7.cell? ⟨W5.heap.size, 1, none⟩ = some (.int .i64 s1) := (blk_cell hr9 1).trans rfl; clear hB7 HM HAL hr9 HR9))
  obtain ⟨gn, hgn⟩ : ∃ gn, W7.heap.size = gn := ⟨_, rfl⟩
  have hb8 : Below W7.heap.size W7 (W7.alloc (.cells #[.int .i64 (s1 + 1)] 3)) := below_alloc (Below.refl _ _) _
  have hn8 : (W7.alloc (.cells #[.int .i64 (s1 + 1)] 3)).cell? ⟨W7.heap.size, 0, none⟩ = some (.int .i64 (s1 + 1)) := (blk_cell (heap_alloc_new W7 _) 0).trans rfl
  have hs8 : (W7.alloc (.cells #[.int .i64 (s1 + 1)] 3)).heap.size = W7.heap.size + 1 := by simp
  obtain ⟨W8, hW8⟩ : ∃ W8, W8 = W7.alloc (.cells #[.int .i64 (s1 + 1)] 3) := ⟨_, rfl⟩
  rw [← hW8] at hb8 hn8 hs8 ⊢
  rw [hgn] at hn8 hs8 ⊢
  have HN := Aside0.mk (show bookAt W8 w.heap.size t _ _ false ∧ W8.heap[w.heap.size + 1]? = some (.cells #[.int .i64 1, .int .i64 b] 29 (0, 0)) ∧ W8.heap[w.heap.size + 1 + 1]? = some (.cells #[.int .i64 0, .slice none 0 0, .slice none 0 0, .bool false] 24 (0, 0)) ∧ Below w.heap.size w W8 ∧ w.heap.size + 3 ≤ gn ∧ W8.heap.size = gn + 1 from ⟨HM7.out.1.below hb8 HM7.out.1.lt, (hb8.block _ (by have := HM7.out.2.2.2.2; omega)).trans HM7.out.2.1, (hb8.block _ (by have := HM7.out.2.2.2.2; omega)).trans HM7.out.2.2.1, below_step HM7.out.2.2.2.1 hb8, by have := HM7.out.2.2.2.2; omega, hs8⟩)
  have hsr := HS.out
  have hch := changed_red 57 #[.pointer (some ⟨gn, 0, none⟩)] (enters_of Tryd.func57 (by kernel_rfl) rfl) t false A0 c0 l0 (some ad) c1 l1 b ⟨1, (s1 + 1), s2⟩ false W8.drew (Kd.C_below (Kd.C_below H0.out HN.out.2.2.2.1) (below_drew1 (Below.refl _ _))) (Kd.C_below (Kd.C_below H1.out HN.out.2.2.2.1) (below_drew1 (Below.refl _ _))) hl0' hl1' HBI.out
    (fun W gb gs off u0 u1 g1 g2 g3 g4 g5 => by
      rw [hsr] at g2
      have hn : W.cell? ⟨gn, 0, none⟩ = some (.int .i64 (s1 + 1)) := (g5.cell (show gn < W8.drew.heap.size by show gn < W8.heap.size; omega)).trans hn8
      exact do_begin W gb gs off gn (s1 + 1) t u0 u1 false ⟨0, s1, s2⟩ g1 g2 g3 hn (by have : W8.heap.size ≤ gs := g4; omega))
  have HCH := Aside0.mk hch
  clear hch hsr hW8 hb8 hs8 hm0 hm1 hz3 hz1 ht0 hy0 hy1 hy2 hy3 hgn hl0' hl1'
  have hz0 := HN.out.1.c0
  have hz1 := HN.out.1.c1
  have hz2 := HN.out.1.c2
  have hz3 := HN.out.1.c3
  have hy0 : W8.cell? ⟨w.heap.size + 1, 0, none⟩ = some (.int .i64 1) := (blk_cell HN.out.2.1 0).trans rfl
  have hy1 : W8.cell? ⟨w.heap.size + 1, 1, none⟩ = some (.int .i64 b) := (blk_cell HN.out.2.1 1).trans rfl
  have hmf : ∀ (fn : Fn) (first cap : Array Value) (w : World), (Instr.makeFunc fn first cap).run Tryd.prog w = .ok (.func fn first cap) w := fun _ _ _ _ => rfl
  have HN8 := Aside0.mk hn8
  go_region_held3 (fun w' => w'.cell? ⟨w.heap.size, 0, none⟩ = some (.int .i64 t) ∧ w'.cell? ⟨w.heap.size, 1, none⟩ = some (.slice A0 l0.length c0) ∧ w'.cell? ⟨w.heap.size, 2, none⟩ = some (.slice (some ad) l1.length c1) ∧ w'.cell? ⟨w.heap.size, 3, none⟩ = some (.bool false) ∧ w'.cell? ⟨w.heap.size + 1, 0, none⟩ = some (.int .i64 1) ∧ w'.cell? ⟨w.heap.size + 1, 1, none⟩ = some (.int .i64 b) ∧ w'.cell? ⟨gn, 0, none⟩ = some (.int .i64 (s1 + 1))) (first | exact HS9.out | go_keep) ((go_at_call 56; go_must (refine HCH.out.mono ?_; rintro e_ W9 ⟨v1, v2, rfl, hr1, hr2, hB9⟩; have HK := Aside0.mk (hB9.size); have HR1 := Aside0.mk (Kd.R_mono (Kd.R_bound hr1) (fun k hk => (⟨hk.1, hk.2.1⟩ : _ ∧ W8.heap.size ≤ k))); have HR2 := Aside0.mk (Kd.R_mono (Kd.R_bound hr2) (fun k hk => (⟨hk.1, hk.2.1⟩ : _ ∧ W8.heap.size ≤ k))); have HB9 := Aside0.mk (below_step (below_drew1 HN.out.2.2.2.1) hB9); have HZ9 := Aside0.mk (show W9.heap[w.heap.size + 1 + 1]? = some (.cells #[.int .i64 0, .slice none 0 0, .slice none 0 0, .bool false] 24 (0, 0)) from (hB9.block _ (show w.heap.size + 1 + 1 < W8.heap.size by have := HN.out.2.2.2.2; omega)).trans HN.out.2.2.1); have j0 := (hB9.cell (show w.heap.size < W8.heap.size from HN.out.1.lt)).trans hz0; have j1 := (hB9.cell (show w.heap.size < W8.heap.size from HN.out.1.lt)).trans hz1; have j2 := (hB9.cell (show w.heap.size < W8.heap.size from HN.out.1.lt)).trans hz2; have j3 := (hB9.cell (show w.heap.size < W8.heap.size from HN.out.1.lt)).trans hz3; have j4 := (hB9.cell (show w.heap.size + 1 < W8.heap.size by have := HN.out.2.2.2.2; omega)).trans hy0; have j5 := (hB9.cell (show w.heap.size + 1 < W8.heap.size by have := HN.out.2.2.2.2; omega)).trans hy1; have j6 := (hB9.cell (show gn < W8.heap.size by have := HN.out.2.2.2.2; omega)).trans HN8.out; clear hr1 hr2 hB9; obtain ⟨B1, d1, e1⟩ := Kd.R_slice HR1.out; subst e1; obtain ⟨B2, d2, e2⟩ := Kd.R_slice HR2.out; subst e2; (try simp only [List.length_set] at HR1 HR2); have HS9 := Aside0.mk (show ((((W9.setCell ⟨w.heap.size + 1 + 1, 0, none⟩ (.int .i64 t)).setCell ⟨w.heap.size + 1 + 1, 1, none⟩ (.slice B1 l0.length d1)).setCell ⟨w.heap.size + 1 + 1, 2, none⟩ (.slice B2 l1.length d2)).setCell ⟨w.heap.size + 1 + 1, 3, none⟩ (.bool false)).cell? ⟨w.heap.size, 0, none⟩ = some (.int .i64 t) ∧ ((((W9.setCell ⟨w.heap.size + 1 + 1, 0, none⟩ (.int .i64 t)).setCell ⟨w.heap.size + 1 + 1, 1, none⟩ (.slice B1 l0.length d1)).setCell ⟨w.heap.size + 1 + 1, 2, none⟩ (.slice B2 l1.length d2)).setCell ⟨w.heap.size + 1 + 1, 3, none⟩ (.bool false)).cell? ⟨w.heap.size, 1, none⟩ = some (.slice A0 l0.length c0) ∧ ((((W9.setCell ⟨w.heap.size + 1 + 1, 0, none⟩ (.int .i64 t)).setCell ⟨w.heap.size + 1 + 1, 1, none⟩ (.slice B1 l0.length d1)).setCell ⟨w.heap.size + 1 + 1, 2, none⟩ (.slice B2 l1.length d2)).setCell ⟨w.heap.size + 1 + 1, 3, none⟩ (.bool false)).cell? ⟨w.heap.size, 2, none⟩ = some (.slice (some ad) l1.length c1) ∧ ((((W9.setCell ⟨w.heap.size + 1 + 1, 0, none⟩ (.int .i64 t)).setCell ⟨w.heap.size + 1 + 1, 1, none⟩ (.slice B1 l0.length d1)).setCell ⟨w.heap.size + 1 + 1, 2, none⟩ (.slice B2 l1.length d2)).setCell ⟨w.heap.size + 1 + 1, 3, none⟩ (.bool false)).cell? ⟨w.heap.size, 3, none⟩ = some (.bool false) ∧ ((((W9.setCell ⟨w.heap.size + 1 + 1, 0, none⟩ (.int .i64 t)).setCell ⟨w.heap.size + 1 + 1, 1, none⟩ (.slice B1 l0.length d1)).setCell ⟨w.heap.size + 1 + 1, 2, none⟩ (.slice B2 l1.length d2)).setCell ⟨w.heap.size + 1 + 1, 3, none⟩ (.bool false)).cell? ⟨w.heap.size + 1, 0, none⟩ = some (.int .i64 1) ∧ ((((W9.setCell ⟨w.heap.size + 1 + 1, 0, none⟩ (.int .i64 t)).setCell ⟨w.heap.size + 1 + 1, 1, none⟩ (.slice B1 l0.length d1)).setCell ⟨w.heap.size + 1 + 1, 2, none⟩ (.slice B2 l1.length d2)).setCell ⟨w.heap.size + 1 + 1, 3, none⟩ (.bool false)).cell? ⟨w.heap.size + 1, 1, none⟩ = some (.int .i64 b) ∧ ((((W9.setCell ⟨w.heap.size + 1 + 1, 0, none⟩ (.int .i64 t)).setCell ⟨w.heap.size + 1 + 1, 1, none⟩ (.slice B1 l0.length d1)).setCell ⟨w.heap.size + 1 + 1, 2, none⟩ (.slice B2 l1.length d2)).setCell ⟨w.heap.size + 1 + 1, 3, none⟩ (.bool false)).cell? ⟨gn, 0, none⟩ = some (.int .i64 (s1 + 1)) from ⟨far4 j0 (by omega), far4 j1 (by omega), far4 j2 (by omega), far4 j3 (by omega), far4 j4 (by omega), far4 j5 (by omega), far4 j6 (by have := HN.out.2.2.2.2; omega)⟩); have hc0 : W9.cell? ⟨w.heap.size + 1 + 1, 0, none⟩ = some (.int .i64 0) := (blk_cell HZ9.out 0).trans rfl; have hc1 : W9.cell? ⟨w.heap.size + 1 + 1, 1, none⟩ = some (.slice none 0 0) := (blk_cell HZ9.out 1).trans rfl; have hc2 : W9.cell? ⟨w.heap.size + 1 + 1, 2, none⟩ = some (.slice none 0 0) := (blk_cell HZ9.out 2).trans rfl; have hc3 : W9.cell? ⟨w.heap.size + 1 + 1, 3, none⟩ = some (.bool false) := (blk_cell HZ9.out 3).trans rfl; have hf0 : W9.frozen? ⟨w.heap.size + 1 + 1, 0, none⟩ = false := frozen_of_row _ _ _ _ _ HZ9.out; have hf1 : W9.frozen? ⟨w.heap.size + 1 + 1, 1, none⟩ = false := frozen_of_row _ _ _ _ _ HZ9.out; have hf2 : W9.frozen? ⟨w.heap.size + 1 + 1, 2, none⟩ = false := frozen_of_row _ _ _ _ _ HZ9.out; have hf3 : W9.frozen? ⟨w.heap.size + 1 + 1, 3, none⟩ = false := frozen_of_row _ _ _ _ _ HZ9.out)))
  clear HS9 j0 j1 j2 j3 j4 j5 j6 hz0 hz1 hz2 hz3 hy0 hy1 hmf hc0 hc1 hc2 hc3 hf0 hf1 hf2 hf3
  go_wp2_with fail
  refine bodyPost_ret (results_list (rs := [.cell 4 24, .tmp 5, .tmp 6, .tmp 7]) rfl (by simp) (.cell (w.heap.size + 1 + 1) 24 #[.int .i64 t, .slice B1 l0.length d1, .slice B2 l1.length d2, .bool false] (0, 0) _ rfl (by refine blk_put (cs := #[.int .i64 t, .slice B1 l0.length d1, .slice B2 l1.length d2, .bool false]) ?_ 3 _ rfl; refine blk_put (cs := #[.int .i64 t, .slice B1 l0.length d1, .slice none 0 0, .bool false]) ?_ 2 _ rfl; refine blk_put (cs := #[.int .i64 t, .slice none 0 0, .slice none 0 0, .bool false]) ?_ 1 _ rfl; refine blk_put (cs := #[.int .i64 0, .slice none 0 0, .slice none 0 0, .bool false]) ?_ 0 _ rfl; exact HZ9.out) Tryd.underlying24 rfl (by kernel_rfl) (.tmp (.tmp (.tmp .nil))))) rfl ?_
  have hs : w.heap.size + 3 ≤ W8.heap.size := by have := HN.out.2.2.2.2; omega
  refine ⟨_, _, rfl, ?_, ?_, (((HB9.out.setCell (by simp; omega) _).setCell (by simp; omega) _).setCell (by simp; omega) _).setCell (by simp; omega) _⟩
  · exact Kd.R_lower (Kd.R_mono (Kd.R_far (p := ⟨w.heap.size + 1 + 1, 3, none⟩) (Kd.R_far (p := ⟨w.heap.size + 1 + 1, 2, none⟩) (Kd.R_far (p := ⟨w.heap.size + 1 + 1, 1, none⟩) (Kd.R_far (p := ⟨w.heap.size + 1 + 1, 0, none⟩) HR1.out (fun k hk => by have := hk.2; simp; omega) _) (fun k hk => by have := hk.2; simp; omega) _) (fun k hk => by have := hk.2; simp; omega) _) (fun k hk => by have := hk.2; simp; omega) _) (fun k hk => hk.1)) (show w.heap.size ≤ W8.heap.size by omega)
  · exact Kd.R_lower (Kd.R_mono (Kd.R_far (p := ⟨w.heap.size + 1 + 1, 3, none⟩) (Kd.R_far (p := ⟨w.heap.size + 1 + 1, 2, none⟩) (Kd.R_far (p := ⟨w.heap.size + 1 + 1, 1, none⟩) (Kd.R_far (p := ⟨w.heap.size + 1 + 1, 0, none⟩) HR2.out (fun k hk => by have := hk.2; simp; omega) _) (fun k hk => by have := hk.2; simp; omega) _) (fun k hk => by have := hk.2; simp; omega) _) (fun k hk => by have := hk.2; simp; omega) _) (fun k hk => hk.1)) (show w.heap.size ≤ W8.heap.size by omega)

set_option maxHeartbeats 4000000 in
set_option maxRecDepth 100000 in
theorem begin_held_red (t : Int) (A0 : Option Addr) (c0 : Nat) (l0 : List S38) (A1 : Option Addr) (c1 : Nat) (l1 : List S38) (b : Nat) (w : World)
    (h0 : Kd.C k38 w A0 l0.length l0) (hcap0 : l0.length ≤ c0) (h1 : Kd.C k38 w A1 l1.length l1) (hl0 : l0.length ≤ 6000000000000) (hl1 : l1.length ≤ 6000000000000) (hT : Tab w) (he : knownP t l0 l1 false [⟨1, b⟩] = 0) (hb : b < l1.length) (hst : (rd_T38 l1 (b : Int)).f0 = 2) (kf : Nat) (hall : ledger_all.f kf l0 = some true) (hl0' : l0.length ≤ 100000) (hl1' : l1.length ≤ 100000) :
    Calls Tryd.prog 28 #[.agg #[.int .i64 t, .slice A0 l0.length c0, .slice A1 l1.length c1, .bool false], .agg #[.int .i64 1, .int .i64 b]] w fun e_ w' => ∃ v1 v2 : Value, e_ = .returned (.tuple #[.agg #[.int .i64 t, v1, v2, .bool false], .int .i64 ((rd_T38 l1 (b : Int)).f1), .bool false, .int .i64 0]) ∧ Kd.R k38 38 w' w.heap.size (fun k => some k ≠ v2.ownBlock) v1 l0 ∧ Kd.R k38 38 w' w.heap.size (fun k => some k ≠ v1.ownBlock) v2 (l1.set b ⟨1, (rd_T38 l1 (b : Int)).f1, (rd_T38 l1 (b : Int)).f2⟩) ∧ Below w.heap.size w w' := by
  have hl3 := lays3_of w t (.slice A0 l0.length c0) (.slice A1 l1.length c1) false 1 b
  have hba : Below w.heap.size w ((w3of w t (.slice A0 l0.length c0) (.slice A1 l1.length c1) false 1 b).alloc (.cells #[.int .i64 1, .int .i64 b] 29)) := below_alloc hl3.q0 _
  have hkn := known_any t false A0 c0 l0 A1 c1 l1 (some ⟨(w3of w t (.slice A0 l0.length c0) (.slice A1 l1.length c1) false 1 b).heap.size, 0, none⟩) 1 [⟨1, b⟩] ((w3of w t (.slice A0 l0.length c0) (.slice A1 l1.length c1) false 1 b).alloc (.cells #[.int .i64 1, .int .i64 b] 29)) (Kd.C_below h0 hba) (Kd.C_below h1 hba) (C_one (w3of w t (.slice A0 l0.length c0) (.slice A1 l1.length c1) false 1 b) 1 b) (by simp) hl0 hl1 (hT.below hba)
  rw [he] at hkn
  have H0 := Aside0.mk h0
  have H1 := Aside0.mk h1
  have HCP := Aside0.mk hcap0
  obtain ⟨W3, hW3⟩ : ∃ W3, (w3of w t (.slice A0 l0.length c0) (.slice A1 l1.length c1) false 1 b) = W3 := ⟨_, rfl⟩
  rw [hW3] at hl3 hba hkn
  unfold w3of at hW3
  have HW3 := Aside0.mk hW3
  have HL := Aside0.mk hl3
  have HKN := Aside0.mk hkn
  have ha := below_alloc (Below.refl W3.heap.size W3) (.cells #[.int .i64 1, .int .i64 b] 29)
  have HBA := Aside0.mk ha
  clear hba hkn h0 h1 he hl3 hT hl0 hl1 ha hW3 hcap0
  have hu22 := Tryd.underlying22
  have hu29 := Tryd.underlying29
  have hu24 := Tryd.underlying24
  have hu38 := Tryd.underlying38
  have hu26 := Tryd.underlying26
  have hu85 := Tryd.underlying85
  have hz0 := HL.out.q2.c0
  have hz1 := HL.out.q2.c1
  have hz2 := HL.out.q2.c2
  have hz3 := HL.out.q2.c3
  have hy0 : W3.cell? ⟨w.heap.size + 1, 0, none⟩ = some (.int .i64 1) := (blk_cell HL.out.q3 0).trans rfl
  have hy1 : W3.cell? ⟨w.heap.size + 1, 1, none⟩ = some (.int .i64 b) := (blk_cell HL.out.q3 1).trans rfl
  obtain ⟨ad, ea, hx0, hx1, hx2⟩ := at_T38 H1.out (b : Int) (by omega) (by omega)
  subst ea
  rw [Int.toNat_natCast] at hx0 hx1 hx2
  obtain ⟨⟨sa, s1, s2⟩, hs⟩ : ∃ s, rd_T38 l1 (b : Int) = s := ⟨_, rfl⟩
  rw [hs] at hx0 hx1 hx2 hst
  rw [hs]
  dsimp only at *
  subst hst
  have HX := Aside0.mk (And.intro hx0 (And.intro hx1 hx2))
  have HS := Aside0.mk hs
  have HBI := Aside0.mk hb
  clear hx0 hx1 hx2 hs hb
  go_enter Tryd.func28, Tryd.ntmps28
  go_upto_region 1 with (fail)
  rw [HW3.out]
  clear HW3
  go_upto_region 6 with (first | (go_at_call 54; go_must (refine HKN.out.mono ?_; rintro e_ W4 ⟨rfl, hB4⟩; have HF := Aside0.mk (HL.out.below (below_step HBA.out hB4)); clear hB4 HL HKN HBA hz0 hz1 hz2 hz3 hy0 hy1; have hv0 : W4.cell? ⟨w.heap.size + 1, 0, none⟩ = some (.int .i64 1) := (blk_cell HF.out.2.1 0).trans rfl; have hv1 : W4.cell? ⟨w.heap.size + 1, 1, none⟩ = some (.int .i64 b) := (blk_cell HF.out.2.1 1).trans rfl)) | (go_at_call 55; go_must (refine (state_red W4 w.heap.size t ad _ _ _ false b HF.out.1 (by omega) (by have := HBI.out; omega)).mono ?_; rintro e_ W5 ⟨rfl, hB5⟩; have HG := Aside0.mk (show bookAt W5 w.heap.size t _ _ false ∧ W5.heap[w.heap.size + 1]? = some (.cells #[.int .i64 1, .int .i64 b] 29 (0, 0)) ∧ W5.heap[w.heap.size + 1 + 1]? = some (.cells #[.int .i64 0, .slice none 0 0, .slice none 0 0, .bool false] 24 (0, 0)) ∧ Below w.heap.size w W5 ∧ w.heap.size + 3 ≤ W5.heap.size from ⟨HF.out.1.below hB5 HF.out.1.lt, (hB5.block _ (by have := HF.out.2.2.2.2; omega)).trans HF.out.2.1, (hB5.block _ (by have := HF.out.2.2.2.2; omega)).trans HF.out.2.2.1, below_step HF.out.2.2.2.1 hB5, by have := hB5.size; have := HF.out.2.2.2.2; omega⟩); clear hB5 HF hv0 hv1; have hx0 := (HG.out.2.2.2.1.cell (World.block_lt_of_cell? w _ HX.out.1)).trans HX.out.1; have hx1 := (HG.out.2.2.2.1.cell (World.block_lt_of_cell? w _ HX.out.2.1)).trans HX.out.2.1; have hx2 := (HG.out.2.2.2.1.cell (World.block_lt_of_cell? w _ HX.out.2.2)).trans HX.out.2.2)))
  clear hx0 hx1 hx2
  obtain ⟨W6, hW6⟩ : ∃ W6, W6 = (W5.alloc (.cells #[.int .i64 2, .int .i64 s1, .int .i64 s2] 38)).alloc (.cells #[.bool true, .bool false, .bool true, .bool false] 85) := ⟨_, rfl⟩
  rw [← hW6]
  have hb6 : Below W5.heap.size W5 W6 := by rw [hW6]; exact below_alloc (below_alloc (Below.refl _ _) _) _
  have hsz6 : W6.heap.size = W5.heap.size + 1 + 1 := by rw [hW6]; simp
  have hr9 : W6.heap[W5.heap.size]? = some (.cells #[.int .i64 2, .int .i64 s1, .int .i64 s2] 38 (0, 0)) := by
    rw [hW6]
    exact ((below_alloc (Below.refl _ _) _).block W5.heap.size (by simp)).trans (heap_alloc_new W5 _)
  have hr10 : W6.heap[W5.heap.size + 1]? = some (.cells #[.bool true, .bool false, .bool true, .bool false] 85 (0, 0)) := by
    have e1 := heap_alloc_new (W5.alloc (.cells #[.int .i64 2, .int .i64 s1, .int .i64 s2] 38)) (.cells #[.bool true, .bool false, .bool true, .bool false] 85)
    rw [show (W5.alloc (.cells #[.int .i64 2, .int .i64 s1, .int .i64 s2] 38)).heap.size = W5.heap.size + 1 from by simp] at e1
    rw [hW6]
    exact e1
  have HM := Aside0.mk (show bookAt W6 w.heap.size t _ _ false ∧ W6.heap[w.heap.size + 1]? = some (.cells #[.int .i64 1, .int .i64 b] 29 (0, 0)) ∧ W6.heap[w.heap.size + 1 + 1]? = some (.cells #[.int .i64 0, .slice none 0 0, .slice none 0 0, .bool false] 24 (0, 0)) ∧ Below w.heap.size w W6 ∧ w.heap.size + 3 ≤ W5.heap.size from ⟨HG.out.1.below hb6 HG.out.1.lt, (hb6.block _ (by have := HG.out.2.2.2.2; omega)).trans HG.out.2.1, (hb6.block _ (by have := HG.out.2.2.2.2; omega)).trans HG.out.2.2.1, below_step HG.out.2.2.2.1 hb6, HG.out.2.2.2.2⟩)
  have HSZ := Aside0.mk hsz6
  have hz3 := HM.out.1.c3
  have hz1 := HM.out.1.c1
  have ht0 : W6.cell? ⟨w.heap.size + 1, 0, none⟩ = some (.int .i64 1) := (blk_cell HM.out.2.1 0).trans rfl
  have hm0 : W6.cell? ⟨W5.heap.size, 0, none⟩ = some (.int .i64 2) := (blk_cell hr9 0).trans rfl
  have hm1 : W6.cell? ⟨W5.heap.size, 1, none⟩ = some (.int .i64 s1) := (blk_cell hr9 1).trans rfl
  have hy0 : W6.cell? ⟨W5.heap.size + 1, 0, none⟩ = some (.bool true) := (blk_cell hr10 0).trans rfl
  have hy1 : W6.cell? ⟨W5.heap.size + 1, 1, none⟩ = some (.bool false) := (blk_cell hr10 1).trans rfl
  have hy2 : W6.cell? ⟨W5.heap.size + 1, 2, none⟩ = some (.bool true) := (blk_cell hr10 2).trans rfl
  have hy3 : W6.cell? ⟨W5.heap.size + 1, 3, none⟩ = some (.bool false) := (blk_cell hr10 3).trans rfl
  clear hW6 hsz6 HG hb6
  have HAL := Aside0.mk (ledger_all.calls kf A0 c0 l0 true W6 (Kd.C_below H0.out HM.out.2.2.2.1) HCP.out hall)
  have HR9 := Aside0.mk hr9
  clear hall hr9 hr10
  go_upto_region 12 with (go_at_call 40; go_must (refine HAL.out.mono ?_; rintro e_ W7 ⟨rfl, hB7⟩; have HM7 := Aside0.mk (show bookAt W7 w.heap.size t _ _ false ∧ W7.heap[w.heap.size + 1]? = some (.cells #[.int .i64 1, .int .i64 b] 29 (0, 0)) ∧ W7.heap[w.heap.size + 1 + 1]? = some (.cells #[.int .i64 0, .slice none 0 0, .slice none 0 0, .bool false] 24 (0, 0)) ∧ Below w.heap.size w W7 ∧ w.heap.size + 3 ≤ W7.heap.size from ⟨HM.out.1.below hB7 HM.out.1.lt, (hB7.block _ (by have := HM.out.2.2.2.2; have := HSZ.out; omega)).trans HM.out.2.1, (hB7.block _ (by have := HM.out.2.2.2.2; have := HSZ.out; omega)).trans HM.out.2.2.1, below_step HM.out.2.2.2.1 hB7, by have := hB7.size; have := HM.out.2.2.2.2; have := HSZ.out; omega⟩); have hr9 := (hB7.block _ (by have := HSZ.out; omega)).trans HR9.out; have hm0 : W7.cell? ⟨W5.heap.size, 0, none⟩ = some (.int .i64 2) := (blk_cell hr9 0).trans rfl; have hm1 : W7.cell? ⟨W5.heap.size, 1, none⟩ = some (.int .i64 s1) := (blk_cell hr9 1).trans rfl; clear hB7 HM HAL hr9 HR9))
  obtain ⟨gn, hgn⟩ : ∃ gn, W7.heap.size = gn := ⟨_, rfl⟩
  have hb8 : Below W7.heap.size W7 (W7.alloc (.cells #[.int .i64 s1] 3)) := below_alloc (Below.refl _ _) _
  have hn8 : (W7.alloc (.cells #[.int .i64 s1] 3)).cell? ⟨W7.heap.size, 0, none⟩ = some (.int .i64 s1) := (blk_cell (heap_alloc_new W7 _) 0).trans rfl
  have hs8 : (W7.alloc (.cells #[.int .i64 s1] 3)).heap.size = W7.heap.size + 1 := by simp
  obtain ⟨W8, hW8⟩ : ∃ W8, W8 = W7.alloc (.cells #[.int .i64 s1] 3) := ⟨_, rfl⟩
  rw [← hW8] at hb8 hn8 hs8 ⊢
  rw [hgn] at hn8 hs8 ⊢
  have HN := Aside0.mk (show bookAt W8 w.heap.size t _ _ false ∧ W8.heap[w.heap.size + 1]? = some (.cells #[.int .i64 1, .int .i64 b] 29 (0, 0)) ∧ W8.heap[w.heap.size + 1 + 1]? = some (.cells #[.int .i64 0, .slice none 0 0, .slice none 0 0, .bool false] 24 (0, 0)) ∧ Below w.heap.size w W8 ∧ w.heap.size + 3 ≤ gn ∧ W8.heap.size = gn + 1 from ⟨HM7.out.1.below hb8 HM7.out.1.lt, (hb8.block _ (by have := HM7.out.2.2.2.2; omega)).trans HM7.out.2.1, (hb8.block _ (by have := HM7.out.2.2.2.2; omega)).trans HM7.out.2.2.1, below_step HM7.out.2.2.2.1 hb8, by have := HM7.out.2.2.2.2; omega, hs8⟩)
  have hsr := HS.out
  have hch := changed_red 57 #[.pointer (some ⟨gn, 0, none⟩)] (enters_of Tryd.func57 (by kernel_rfl) rfl) t false A0 c0 l0 (some ad) c1 l1 b ⟨1, s1, s2⟩ false W8.drew (Kd.C_below (Kd.C_below H0.out HN.out.2.2.2.1) (below_drew1 (Below.refl _ _))) (Kd.C_below (Kd.C_below H1.out HN.out.2.2.2.1) (below_drew1 (Below.refl _ _))) hl0' hl1' HBI.out
    (fun W gb gs off u0 u1 g1 g2 g3 g4 g5 => by
      rw [hsr] at g2
      have hn : W.cell? ⟨gn, 0, none⟩ = some (.int .i64 s1) := (g5.cell (show gn < W8.drew.heap.size by show gn < W8.heap.size; omega)).trans hn8
      exact do_begin W gb gs off gn s1 t u0 u1 false ⟨2, s1, s2⟩ g1 g2 g3 hn (by have : W8.heap.size ≤ gs := g4; omega))
  have HCH := Aside0.mk hch
  clear hch hsr hW8 hb8 hs8 hm0 hm1 hz3 hz1 ht0 hy0 hy1 hy2 hy3 hgn hl0' hl1'
  have hz0 := HN.out.1.c0
  have hz1 := HN.out.1.c1
  have hz2 := HN.out.1.c2
  have hz3 := HN.out.1.c3
  have hy0 : W8.cell? ⟨w.heap.size + 1, 0, none⟩ = some (.int .i64 1) := (blk_cell HN.out.2.1 0).trans rfl
  have hy1 : W8.cell? ⟨w.heap.size + 1, 1, none⟩ = some (.int .i64 b) := (blk_cell HN.out.2.1 1).trans rfl
  have hmf : ∀ (fn : Fn) (first cap : Array Value) (w : World), (Instr.makeFunc fn first cap).run Tryd.prog w = .ok (.func fn first cap) w := fun _ _ _ _ => rfl
  have HN8 := Aside0.mk hn8
  go_region_held3 (fun w' => w'.cell? ⟨w.heap.size, 0, none⟩ = some (.int .i64 t) ∧ w'.cell? ⟨w.heap.size, 1, none⟩ = some (.slice A0 l0.length c0) ∧ w'.cell? ⟨w.heap.size, 2, none⟩ = some (.slice (some ad) l1.length c1) ∧ w'.cell? ⟨w.heap.size, 3, none⟩ = some (.bool false) ∧ w'.cell? ⟨w.heap.size + 1, 0, none⟩ = some (.int .i64 1) ∧ w'.cell? ⟨w.heap.size + 1, 1, none⟩ = some (.int .i64 b) ∧ w'.cell? ⟨gn, 0, none⟩ = some (.int .i64 s1)) (first | exact HS9.out | go_keep) ((go_at_call 56; go_must (refine HCH.out.mono ?_; rintro e_ W9 ⟨v1, v2, rfl, hr1, hr2, hB9⟩; have HK := Aside0.mk (hB9.size); have HR1 := Aside0.mk (Kd.R_mono (Kd.R_bound hr1) (fun k hk => (⟨hk.1, hk.2.1⟩ : _ ∧ W8.heap.size ≤ k))); have HR2 := Aside0.mk (Kd.R_mono (Kd.R_bound hr2) (fun k hk => (⟨hk.1, hk.2.1⟩ : _ ∧ W8.heap.size ≤ k))); have HB9 := Aside0.mk (below_step (below_drew1 HN.out.2.2.2.1) hB9); have HZ9 := Aside0.mk (show W9.heap[w.heap.size + 1 + 1]? = some (.cells #[.int .i64 0, .slice none 0 0, .slice none 0 0, .bool false] 24 (0, 0)) from (hB9.block _ (show w.heap.size + 1 + 1 < W8.heap.size by have := HN.out.2.2.2.2; omega)).trans HN.out.2.2.1); have j0 := (hB9.cell (show w.heap.size < W8.heap.size from HN.out.1.lt)).trans hz0; have j1 := (hB9.cell (show w.heap.size < W8.heap.size from HN.out.1.lt)).trans hz1; have j2 := (hB9.cell (show w.heap.size < W8.heap.size from HN.out.1.lt)).trans hz2; have j3 := (hB9.cell (show w.heap.size < W8.heap.size from HN.out.1.lt)).trans hz3; have j4 := (hB9.cell (show w.heap.size + 1 < W8.heap.size by have := HN.out.2.2.2.2; omega)).trans hy0; have j5 := (hB9.cell (show w.heap.size + 1 < W8.heap.size by have := HN.out.2.2.2.2; omega)).trans hy1; have j6 := (hB9.cell (show gn < W8.heap.size by have := HN.out.2.2.2.2; omega)).trans HN8.out; clear hr1 hr2 hB9; obtain ⟨B1, d1, e1⟩ := Kd.R_slice HR1.out; subst e1; obtain ⟨B2, d2, e2⟩ := Kd.R_slice HR2.out; subst e2; (try simp only [List.length_set] at HR1 HR2); have HS9 := Aside0.mk (show ((((W9.setCell ⟨w.heap.size + 1 + 1, 0, none⟩ (.int .i64 t)).setCell ⟨w.heap.size + 1 + 1, 1, none⟩ (.slice B1 l0.length d1)).setCell ⟨w.heap.size + 1 + 1, 2, none⟩ (.slice B2 l1.length d2)).setCell ⟨w.heap.size + 1 + 1, 3, none⟩ (.bool false)).cell? ⟨w.heap.size, 0, none⟩ = some (.int .i64 t) ∧ ((((W9.setCell ⟨w.heap.size + 1 + 1, 0, none⟩ (.int .i64 t)).setCell ⟨w.heap.size + 1 + 1, 1, none⟩ (.slice B1 l0.length d1)).setCell ⟨w.heap.size + 1 + 1, 2, none⟩ (.slice B2 l1.length d2)).setCell ⟨w.heap.size + 1 + 1, 3, none⟩ (.bool false)).cell? ⟨w.heap.size, 1, none⟩ = some (.slice A0 l0.length c0) ∧ ((((W9.setCell ⟨w.heap.size + 1 + 1, 0, none⟩ (.int .i64 t)).setCell ⟨w.heap.size + 1 + 1, 1, none⟩ (.slice B1 l0.length d1)).setCell ⟨w.heap.size + 1 + 1, 2, none⟩ (.slice B2 l1.length d2)).setCell ⟨w.heap.size + 1 + 1, 3, none⟩ (.bool false)).cell? ⟨w.heap.size, 2, none⟩ = some (.slice (some ad) l1.length c1) ∧ ((((W9.setCell ⟨w.heap.size + 1 + 1, 0, none⟩ (.int .i64 t)).setCell ⟨w.heap.size + 1 + 1, 1, none⟩ (.slice B1 l0.length d1)).setCell ⟨w.heap.size + 1 + 1, 2, none⟩ (.slice B2 l1.length d2)).setCell ⟨w.heap.size + 1 + 1, 3, none⟩ (.bool false)).cell? ⟨w.heap.size, 3, none⟩ = some (.bool false) ∧ ((((W9.setCell ⟨w.heap.size + 1 + 1, 0, none⟩ (.int .i64 t)).setCell ⟨w.heap.size + 1 + 1, 1, none⟩ (.slice B1 l0.length d1)).setCell ⟨w.heap.size + 1 + 1, 2, none⟩ (.slice B2 l1.length d2)).setCell ⟨w.heap.size + 1 + 1, 3, none⟩ (.bool false)).cell? ⟨w.heap.size + 1, 0, none⟩ = some (.int .i64 1) ∧ ((((W9.setCell ⟨w.heap.size + 1 + 1, 0, none⟩ (.int .i64 t)).setCell ⟨w.heap.size + 1 + 1, 1, none⟩ (.slice B1 l0.length d1)).setCell ⟨w.heap.size + 1 + 1, 2, none⟩ (.slice B2 l1.length d2)).setCell ⟨w.heap.size + 1 + 1, 3, none⟩ (.bool false)).cell? ⟨w.heap.size + 1, 1, none⟩ = some (.int .i64 b) ∧ ((((W9.setCell ⟨w.heap.size + 1 + 1, 0, none⟩ (.int .i64 t)).setCell ⟨w.heap.size + 1 + 1, 1, none⟩ (.slice B1 l0.length d1)).setCell ⟨w.heap.size + 1 + 1, 2, none⟩ (.slice B2 l1.length d2)).setCell ⟨w.heap.size + 1 + 1, 3, none⟩ (.bool false)).cell? ⟨gn, 0, none⟩ = some (.int .i64 s1) from ⟨far4 j0 (by omega), far4 j1 (by omega), far4 j2 (by omega), far4 j3 (by omega), far4 j4 (by omega), far4 j5 (by omega), far4 j6 (by have := HN.out.2.2.2.2; omega)⟩); have hc0 : W9.cell? ⟨w.heap.size + 1 + 1, 0, none⟩ = some (.int .i64 0) := (blk_cell HZ9.out 0).trans rfl; have hc1 : W9.cell? ⟨w.heap.size + 1 + 1, 1, none⟩ = some (.slice none 0 0) := (blk_cell HZ9.out 1).trans rfl; have hc2 : W9.cell? ⟨w.heap.size + 1 + 1, 2, none⟩ = some (.slice none 0 0) := (blk_cell HZ9.out 2).trans rfl; have hc3 : W9.cell? ⟨w.heap.size + 1 + 1, 3, none⟩ = some (.bool false) := (blk_cell HZ9.out 3).trans rfl; have hf0 : W9.frozen? ⟨w.heap.size + 1 + 1, 0, none⟩ = false := frozen_of_row _ _ _ _ _ HZ9.out; have hf1 : W9.frozen? ⟨w.heap.size + 1 + 1, 1, none⟩ = false := frozen_of_row _ _ _ _ _ HZ9.out; have hf2 : W9.frozen? ⟨w.heap.size + 1 + 1, 2, none⟩ = false := frozen_of_row _ _ _ _ _ HZ9.out; have hf3 : W9.frozen? ⟨w.heap.size + 1 + 1, 3, none⟩ = false := frozen_of_row _ _ _ _ _ HZ9.out)))
  clear HS9 j0 j1 j2 j3 j4 j5 j6 hz0 hz1 hz2 hz3 hy0 hy1 hmf hc0 hc1 hc2 hc3 hf0 hf1 hf2 hf3
  go_wp2_with fail
  refine bodyPost_ret (results_list (rs := [.cell 4 24, .tmp 5, .tmp 6, .tmp 7]) rfl (by simp) (.cell (w.heap.size + 1 + 1) 24 #[.int .i64 t, .slice B1 l0.length d1, .slice B2 l1.length d2, .bool false] (0, 0) _ rfl (by refine blk_put (cs := #[.int .i64 t, .slice B1 l0.length d1, .slice B2 l1.length d2, .bool false]) ?_ 3 _ rfl; refine blk_put (cs := #[.int .i64 t, .slice B1 l0.length d1, .slice none 0 0, .bool false]) ?_ 2 _ rfl; refine blk_put (cs := #[.int .i64 t, .slice none 0 0, .slice none 0 0, .bool false]) ?_ 1 _ rfl; refine blk_put (cs := #[.int .i64 0, .slice none 0 0, .slice none 0 0, .bool false]) ?_ 0 _ rfl; exact HZ9.out) Tryd.underlying24 rfl (by kernel_rfl) (.tmp (.tmp (.tmp .nil))))) rfl ?_
  have hs : w.heap.size + 3 ≤ W8.heap.size := by have := HN.out.2.2.2.2; omega
  refine ⟨_, _, rfl, ?_, ?_, (((HB9.out.setCell (by simp; omega) _).setCell (by simp; omega) _).setCell (by simp; omega) _).setCell (by simp; omega) _⟩
  · exact Kd.R_lower (Kd.R_mono (Kd.R_far (p := ⟨w.heap.size + 1 + 1, 3, none⟩) (Kd.R_far (p := ⟨w.heap.size + 1 + 1, 2, none⟩) (Kd.R_far (p := ⟨w.heap.size + 1 + 1, 1, none⟩) (Kd.R_far (p := ⟨w.heap.size + 1 + 1, 0, none⟩) HR1.out (fun k hk => by have := hk.2; simp; omega) _) (fun k hk => by have := hk.2; simp; omega) _) (fun k hk => by have := hk.2; simp; omega) _) (fun k hk => by have := hk.2; simp; omega) _) (fun k hk => hk.1)) (show w.heap.size ≤ W8.heap.size by omega)
  · exact Kd.R_lower (Kd.R_mono (Kd.R_far (p := ⟨w.heap.size + 1 + 1, 3, none⟩) (Kd.R_far (p := ⟨w.heap.size + 1 + 1, 2, none⟩) (Kd.R_far (p := ⟨w.heap.size + 1 + 1, 1, none⟩) (Kd.R_far (p := ⟨w.heap.size + 1 + 1, 0, none⟩) HR2.out (fun k hk => by have := hk.2; simp; omega) _) (fun k hk => by have := hk.2; simp; omega) _) (fun k hk => by have := hk.2; simp; omega) _) (fun k hk => by have := hk.2; simp; omega) _) (fun k hk => hk.1)) (show w.heap.size ≤ W8.heap.size by omega)
end Go.Proofs.YtponmfnegdlppaaDoor.P

end
section
/- Are all tasks done? -/
namespace Go.Proofs.YtponmfnegdlppaaDoor.P
open Go.RowKit Go.Proofs.YtponmfnegdlppaaDoorW.PrintWords Go.Proofs.YtponmfnegdlppaaDoorW.PrintLast Go.Proofs.YtponmfnegdlppaaDoorW.PrintMore
set_option linter.unusedVariables false
set_option linter.unusedSimpArgs false

/-- are all done? -/
def allP (l : List S38) : Bool := l.all fun s => decide (s.f0 = 3)
theorem all_loop (l : List S38) (hl : l.length ≤ 6000000000000) (d : Nat) : ∀ (k i : Nat), i + d = l.length → d < k → ledger_all.l0 k l (l.length : Int) (i : Int) = some (allP (l.drop i)) := by
  induction d with
  | zero =>
    intro k i hi hk
    obtain ⟨k, rfl⟩ : ∃ m, k = m + 1 := ⟨k - 1, by omega⟩
    rw [ledger_all.l0, if_neg (by omega), List.drop_eq_nil_of_le (by omega)]
    rfl
  | succ d ih =>
    intro k i hi hk
    obtain ⟨k, rfl⟩ : ∃ m, k = m + 1 := ⟨k - 1, by omega⟩
    have hw : wrap64 ((i : Int) + 1) = ((i + 1 : Nat) : Int) := by unfold wrap64; omega
    rw [ledger_all.l0, if_pos (by omega), if_pos (by omega), if_pos (by omega), drop38 l i (by omega)]
    by_cases h3 : (rd_T38 l (i : Int)).f0 = 3
    · rw [if_pos h3, hw, ih k (i + 1) (by omega) (by omega)]
      simp [allP, h3]
    · rw [if_neg h3]
      simp [allP, h3]
theorem all_eq (l : List S38) (hl : l.length ≤ 6000000000000) : ledger_all.f (l.length + 1) l = some (allP l) := by
  have := all_loop l hl l.length (l.length + 1) 0 (by omega) (by omega)
  rw [List.drop_zero] at this
  exact this
end Go.Proofs.YtponmfnegdlppaaDoor.P

end
section
/- ledger.Begin in the print's form (printed by HBeginF.gen.py). -/
namespace Go.Proofs.YtponmfnegdlppaaDoor.P
open Go.RowKit Go.Proofs.YtponmfnegdlppaaDoorW.PrintWords Go.Proofs.YtponmfnegdlppaaDoorW.PrintLast Go.Proofs.YtponmfnegdlppaaDoorW.PrintMore
set_option linter.unusedVariables false
set_option linter.unusedSimpArgs false

def beginS (t : Int) (l0 l1 : List S38) (k b : Int) (s : S38) (n : Int) (fresh : Bool) : Int × List S38 × List S38 × Bool × Int × Bool × Int :=
  if k = 0 then (t, l0.set b.toNat ⟨1, n, s.f2⟩, l1, false, n, fresh, 0) else (t, l0, l1.set b.toNat ⟨1, n, s.f2⟩, false, n, fresh, 0)
/-- a Begin -/
def beginP (t : Int) (l0 l1 : List S38) (fl : Bool) (k b : Int) : Int × List S38 × List S38 × Bool × Int × Bool × Int :=
  if knownP t l0 l1 fl [⟨k, b⟩] = 0 then
    if fl = true ∨ ((stP l0 l1 k b).f0 ≠ 0 ∧ (stP l0 l1 k b).f0 ≠ 2) ∨ (k = 1 ∧ allP l0 = false) then (0, [], [], false, 0, false, 192)
    else if (stP l0 l1 k b).f0 = 0 then beginS t l0 l1 k b (stP l0 l1 k b) ((stP l0 l1 k b).f1 + 1) true else beginS t l0 l1 k b (stP l0 l1 k b) (stP l0 l1 k b).f1 false
  else (0, [], [], false, 0, false, knownP t l0 l1 fl [⟨k, b⟩])
theorem good_state {t : Int} {held : Bool} {s : S38} (h : goodP t held s = true) : (s.f0 = 0 ∨ s.f0 = 1 ∨ s.f0 = 2 ∨ s.f0 = 3) ∧ (held = false → s.f0 ≠ 2) ∧ (s.f0 = 0 → s.f1 = s.f2) ∧ (s.f0 ≠ 0 → s.f1 = s.f2 + 1) ∧ 0 ≤ s.f2 ∧ s.f2 ≤ t ∧ (s.f2 = t → s.f0 = 0) := by
  unfold goodP at h
  simp only [Bool.and_eq_true, Bool.or_eq_true, Bool.not_eq_true', decide_eq_false_iff_not, decide_eq_true_eq] at h
  obtain ⟨h1, h2, h3, h4, h5, h6, h7⟩ := h
  refine ⟨by omega, fun hh => ?_, fun hh => ?_, fun hh => ?_, by omega, by omega, fun hh => ?_⟩
  · rcases h3 with h3 | h3
    · rw [hh] at h3; cases h3
    · exact h3
  · rw [if_pos hh] at h6; omega
  · rw [if_neg hh] at h6; exact h6
  · rcases h7 with h7 | h7
    · exact absurd hh h7
    · exact h7

theorem begin_any (t : Int) (fl : Bool) (A0 : Option Addr) (c0 : Nat) (l0 : List S38) (A1 : Option Addr) (c1 : Nat) (l1 : List S38) (k b : Int) (r1 : Int) (r2 r3 : List S38) (r4 : Bool) (r5 : Int) (r6 : Bool) (r7 : Int) (w : World)
    (h0 : Kd.C k38 w A0 l0.length l0) (hc0 : l0.length ≤ c0) (h1 : Kd.C k38 w A1 l1.length l1) (hl0 : l0.length ≤ 6000000000000) (hl1 : l1.length ≤ 6000000000000) (hT : Tab w) (h : beginP t l0 l1 fl k b = (r1, r2, r3, r4, r5, r6, r7)) :
    Calls Tryd.prog 28 #[.agg #[.int .i64 t, .slice A0 l0.length c0, .slice A1 l1.length c1, .bool fl], .agg #[.int .i64 k, .int .i64 b]] w fun e_ w' =>
      ∃ v1 v2 : Value, e_ = .returned (.tuple #[.agg #[.int .i64 r1, v1, v2, .bool r4], .int .i64 r5, .bool r6, .int .i64 r7]) ∧ Kd.R k38 38 w' w.heap.size (fun k => some k ≠ v2.ownBlock) v1 r2 ∧ Kd.R k38 38 w' w.heap.size (fun k => some k ≠ v1.ownBlock) v2 r3 ∧ Below w.heap.size w w' := by
  unfold beginP at h
  by_cases hk : knownP t l0 l1 fl [⟨k, b⟩] = 0
  · rw [if_pos hk] at h
    obtain ⟨hc, hf⟩ := known_one hk
    obtain ⟨q1, q2, q3, q4, q5, q6, q7, _⟩ := check_ok hc
    rcases hf with ⟨rfl, n, rfl, hn⟩ | ⟨rfl, n, rfl, hn⟩
    · have hst : stP l0 l1 0 (n : Int) = rd_T38 l0 (n : Int) := by unfold stP; rw [if_pos rfl]
      rw [hst] at h
      obtain ⟨g1, g2, g3, g4, g5, g6, g7⟩ := good_state (q6 _ (rd_mem hn))
      by_cases hfl : fl = true
      · rw [if_pos (.inl hfl)] at h
        subst hfl
        simp only [Prod.mk.injEq] at h
        obtain ⟨rfl, rfl, rfl, rfl, rfl, rfl, rfl⟩ := h
        refine (begin_failed_map t A0 c0 l0 A1 c1 l1 n w h0 hc0 h1 hl0 hl1 hT hk hn).mono ?_
        rintro e w' ⟨rfl, hB⟩
        exact ⟨_, _, rfl, Kd.R_nil _ _ _ _ _, Kd.R_nil _ _ _ _ _, hB⟩
      obtain rfl : fl = false := by cases fl <;> simp_all
      by_cases s1 : (rd_T38 l0 (n : Int)).f0 = 1
      · rw [if_pos (.inr (.inl ⟨by omega, by omega⟩))] at h
        simp only [Prod.mk.injEq] at h
        obtain ⟨rfl, rfl, rfl, rfl, rfl, rfl, rfl⟩ := h
        refine (begin_st1_map t A0 c0 l0 A1 c1 l1 n w h0 hc0 h1 hl0 hl1 hT hk hn s1).mono ?_
        rintro e w' ⟨rfl, hB⟩
        exact ⟨_, _, rfl, Kd.R_nil _ _ _ _ _, Kd.R_nil _ _ _ _ _, hB⟩
      by_cases s3 : (rd_T38 l0 (n : Int)).f0 = 3
      · rw [if_pos (.inr (.inl ⟨by omega, by omega⟩))] at h
        simp only [Prod.mk.injEq] at h
        obtain ⟨rfl, rfl, rfl, rfl, rfl, rfl, rfl⟩ := h
        refine (begin_st3_map t A0 c0 l0 A1 c1 l1 n w h0 hc0 h1 hl0 hl1 hT hk hn s3).mono ?_
        rintro e w' ⟨rfl, hB⟩
        exact ⟨_, _, rfl, Kd.R_nil _ _ _ _ _, Kd.R_nil _ _ _ _ _, hB⟩
      have s0 : (rd_T38 l0 (n : Int)).f0 = 0 := by have := g2 rfl; omega
      rw [if_neg (by rintro (h | h | h); exact absurd h (by decide); omega; exact absurd h.1 (by decide)), if_pos s0] at h
      unfold beginS at h
      rw [if_pos rfl, Int.toNat_natCast] at h
      simp only [Prod.mk.injEq] at h
      obtain ⟨rfl, rfl, rfl, rfl, rfl, rfl, rfl⟩ := h
      exact begin_fresh_map t A0 c0 l0 A1 c1 l1 n w h0 hc0 h1 hl0 hl1 hT hk hn s0 (by omega) (by omega) (by have := g3 s0; omega)
    · have hst : stP l0 l1 1 (n : Int) = rd_T38 l1 (n : Int) := by unfold stP; rw [if_neg (by decide)]
      rw [hst] at h
      obtain ⟨g1, g2, g3, g4, g5, g6, g7⟩ := good_state (q7 _ (rd_mem hn))
      by_cases hfl : fl = true
      · rw [if_pos (.inl hfl)] at h
        subst hfl
        simp only [Prod.mk.injEq] at h
        obtain ⟨rfl, rfl, rfl, rfl, rfl, rfl, rfl⟩ := h
        refine (begin_failed_red t A0 c0 l0 A1 c1 l1 n w h0 hc0 h1 hl0 hl1 hT hk hn).mono ?_
        rintro e w' ⟨rfl, hB⟩
        exact ⟨_, _, rfl, Kd.R_nil _ _ _ _ _, Kd.R_nil _ _ _ _ _, hB⟩
      obtain rfl : fl = false := by cases fl <;> simp_all
      by_cases s1 : (rd_T38 l1 (n : Int)).f0 = 1
      · rw [if_pos (.inr (.inl ⟨by omega, by omega⟩))] at h
        simp only [Prod.mk.injEq] at h
        obtain ⟨rfl, rfl, rfl, rfl, rfl, rfl, rfl⟩ := h
        refine (begin_st1_red t A0 c0 l0 A1 c1 l1 n w h0 hc0 h1 hl0 hl1 hT hk hn s1).mono ?_
        rintro e w' ⟨rfl, hB⟩
        exact ⟨_, _, rfl, Kd.R_nil _ _ _ _ _, Kd.R_nil _ _ _ _ _, hB⟩
      by_cases s3 : (rd_T38 l1 (n : Int)).f0 = 3
      · rw [if_pos (.inr (.inl ⟨by omega, by omega⟩))] at h
        simp only [Prod.mk.injEq] at h
        obtain ⟨rfl, rfl, rfl, rfl, rfl, rfl, rfl⟩ := h
        refine (begin_st3_red t A0 c0 l0 A1 c1 l1 n w h0 hc0 h1 hl0 hl1 hT hk hn s3).mono ?_
        rintro e w' ⟨rfl, hB⟩
        exact ⟨_, _, rfl, Kd.R_nil _ _ _ _ _, Kd.R_nil _ _ _ _ _, hB⟩
      have hal := all_eq l0 hl0
      by_cases ha : allP l0 = false
      · rw [if_pos (.inr (.inr ⟨rfl, ha⟩))] at h
        rw [ha] at hal
        by_cases s0 : (rd_T38 l1 (n : Int)).f0 = 0
        · skip
          simp only [Prod.mk.injEq] at h
          obtain ⟨rfl, rfl, rfl, rfl, rfl, rfl, rfl⟩ := h
          refine (begin_notall0_red t A0 c0 l0 A1 c1 l1 n w h0 hc0 h1 hl0 hl1 hT hk hn s0 _ hal).mono ?_
          rintro e w' ⟨rfl, hB⟩
          exact ⟨_, _, rfl, Kd.R_nil _ _ _ _ _, Kd.R_nil _ _ _ _ _, hB⟩
        · have s2 : (rd_T38 l1 (n : Int)).f0 = 2 := by omega
          simp only [Prod.mk.injEq] at h
          obtain ⟨rfl, rfl, rfl, rfl, rfl, rfl, rfl⟩ := h
          refine (begin_notall2_red t A0 c0 l0 A1 c1 l1 n w h0 hc0 h1 hl0 hl1 hT hk hn s2 _ hal).mono ?_
          rintro e w' ⟨rfl, hB⟩
          exact ⟨_, _, rfl, Kd.R_nil _ _ _ _ _, Kd.R_nil _ _ _ _ _, hB⟩
      have ha' : allP l0 = true := by cases hh : allP l0 <;> simp_all
      rw [ha'] at hal
      rw [if_neg (by rintro (h | h | h); exact absurd h (by decide); omega; exact ha h.2)] at h
      by_cases s0 : (rd_T38 l1 (n : Int)).f0 = 0
      · rw [if_pos s0] at h
        unfold beginS at h
        rw [if_neg (by decide), Int.toNat_natCast] at h
        simp only [Prod.mk.injEq] at h
        obtain ⟨rfl, rfl, rfl, rfl, rfl, rfl, rfl⟩ := h
        exact begin_fresh_red t A0 c0 l0 A1 c1 l1 n w h0 hc0 h1 hl0 hl1 hT hk hn s0 _ hal (by omega) (by omega) (by have := g3 s0; omega)
      · rw [if_neg s0] at h
        unfold beginS at h
        rw [if_neg (by decide), Int.toNat_natCast] at h
        simp only [Prod.mk.injEq] at h
        obtain ⟨rfl, rfl, rfl, rfl, rfl, rfl, rfl⟩ := h
        exact begin_held_red t A0 c0 l0 A1 c1 l1 n w h0 hc0 h1 hl0 hl1 hT hk hn (by omega) _ hal (by omega) (by omega)
  · rw [if_neg hk] at h
    simp only [Prod.mk.injEq] at h
    obtain ⟨rfl, rfl, rfl, rfl, rfl, rfl, rfl⟩ := h
    refine (begin_bad t fl A0 c0 l0 A1 c1 l1 k b w h0 hc0 h1 hl0 hl1 hT _ rfl hk).mono ?_
    rintro e w' ⟨rfl, hB⟩
    exact ⟨_, _, rfl, Kd.R_nil _ _ _ _ _, Kd.R_nil _ _ _ _ _, hB⟩
end Go.Proofs.YtponmfnegdlppaaDoor.P

end
section
/- ledger.Begun, by hand (printed by HBegun.gen.py). -/
namespace Go.Proofs.YtponmfnegdlppaaDoor.P
open Go.RowKit Go.Proofs.YtponmfnegdlppaaDoorW.PrintWords Go.Proofs.YtponmfnegdlppaaDoorW.PrintLast Go.Proofs.YtponmfnegdlppaaDoorW.PrintMore
set_option linter.unusedVariables false
set_option linter.unusedSimpArgs false

/-- a sum as the machine reckons it -/
def sumW (g : S38 → Int) : List S38 → Int → Int
  | [], n => n
  | s :: l, n => sumW g l (wrap64 (n + g s))
def begunP (t : Int) (l0 l1 : List S38) (fl : Bool) : Int × Int := if checkP t l0 l1 fl = 0 then (sumW S38.f1 l1 (sumW S38.f1 l0 0), sumW S38.f2 l1 (sumW S38.f2 l0 0)) else (0, 0)
theorem iy0 (A : Option Addr) (n c : Nat) (B : Option Addr) (m d : Nat) (w : World) : Sem.run Tryd.prog (Instr.index 69 (Value.agg #[.slice A n c, .slice B m d]) (Value.int .i64 0)) w = .ok (.slice A n c) w := by kernel_rfl

set_option maxHeartbeats 4000000 in
set_option maxRecDepth 100000 in
theorem begun_any (t : Int) (fl : Bool) (A0 : Option Addr) (c0 : Nat) (l0 : List S38) (A1 : Option Addr) (c1 : Nat) (l1 : List S38) (w : World) (h0 : Kd.C k38 w A0 l0.length l0) (h1 : Kd.C k38 w A1 l1.length l1) (hl0 : l0.length ≤ 6000000000000) (hl1 : l1.length ≤ 6000000000000) (hT : Tab w) :
    Calls Tryd.prog 12 #[.agg #[.int .i64 t, .slice A0 l0.length c0, .slice A1 l1.length c1, .bool fl]] w fun e w' => e = .returned (.tuple #[.int .i64 (begunP t l0 l1 fl).1, .int .i64 (begunP t l0 l1 fl).2]) ∧ Below w.heap.size w w' := by
  have hba := below_alloc (Below.refl w.heap.size w) (.cells #[.int .i64 t, .slice A0 l0.length c0, .slice A1 l1.length c1, .bool fl] 24)
  have hbk : bookAt (w.alloc (.cells #[.int .i64 t, .slice A0 l0.length c0, .slice A1 l1.length c1, .bool fl] 24)) w.heap.size t (.slice A0 l0.length c0) (.slice A1 l1.length c1) fl := heap_alloc_new w _
  have hcall := check_any t fl A0 c0 l0 A1 c1 l1 (w.alloc (.cells #[.int .i64 t, .slice A0 l0.length c0, .slice A1 l1.length c1, .bool fl] 24)) (Kd.C_below h0 hba) (Kd.C_below h1 hba) (hT.below hba)
  have HCA := Aside0.mk hcall
  have HBA := Aside0.mk hba
  have HBK := Aside0.mk hbk
  have H0 := Aside0.mk h0
  have H1 := Aside0.mk h1
  clear hcall hba hbk h0 h1 hT
  obtain ⟨⟨ra, rb⟩, hr⟩ : ∃ r, begunP t l0 l1 fl = r := ⟨_, rfl⟩
  rw [hr]
  dsimp only
  generalize hn0 : l0.length = n0 at *
  generalize hn1 : l1.length = n1 at *
  have HN0 := Aside0.mk hn0
  have HN1 := Aside0.mk hn1
  clear hn0 hn1
  have hu22 := Tryd.underlying22
  have hu38 := Tryd.underlying38
  have hu24 := Tryd.underlying24
  have hu69 := Tryd.underlying69
  have hz0 := HBK.out.c0
  have hz1 := HBK.out.c1
  have hz2 := HBK.out.c2
  have hz3 := HBK.out.c3
  by_cases hc : checkP t l0 l1 fl = 0
  · unfold begunP at hr
    rw [if_pos hc] at hr
    injection hr with hra hrb
    have hcall := HCA.out
    rw [hc] at hcall
    have HCA2 := Aside0.mk hcall
    have HRA := Aside0.mk hra
    have HRB := Aside0.mk hrb
    clear hra hrb hcall hc HCA
    go_enter Tryd.func12, Tryd.ntmps12
    go_upto_region 4 with (go_at_call 15; refine HCA2.out.mono ?_; rintro e W2 ⟨rfl, hB2⟩; have HB2 := Aside0.mk (HBK.out.below hB2 HBK.out.lt); have HA2 := Aside0.mk (below_step HBA.out hB2); clear hB2 HBK HBA hz0 hz1 hz2 hz3)
    clear HCA2
    have hz1 := HB2.out.c1
    have hz2 := HB2.out.c2
    go_wp2_with fail
    clear hz1 hz2
    go_loopw [4, 5, 18] (fun va vb vo wr => ∃ a b : Int, va = .int .i64 a ∧ vb = .int .i64 b ∧ ((vo = .int .i64 0 ∧ Aside0 (sumW S38.f1 l1 (sumW S38.f1 l0 a) = ra) ∧ Aside0 (sumW S38.f2 l1 (sumW S38.f2 l0 b) = rb)) ∨ (vo = .int .i64 1 ∧ Aside0 (sumW S38.f1 l1 a = ra) ∧ Aside0 (sumW S38.f2 l1 b = rb)) ∨ (vo = .int .i64 2 ∧ a = ra ∧ b = rb)) ∧ Aside0 (bookAt wr w.heap.size t (.slice A0 n0 c0) (.slice A1 n1 c1) fl) ∧ Aside0 (Below w.heap.size w wr)) (fun _ _ vo _ => 2 - (intOf vo).toNat)
    case atStart => exact ⟨0, 0, rfl, rfl, .inl ⟨rfl, HRA, HRB⟩, HB2, HA2⟩
    case round =>
      clear HRA HRB HB2 HA2
      obtain ⟨a, b, rfl, rfl, ho, HBK, HBA⟩ := hrel
      rcases ho with ⟨rfl, HRA, HRB⟩ | ⟨rfl, HRA, HRB⟩ | ⟨rfl, rfl, rfl⟩
      · have hix := ix0 A0 n0 c0 A1 n1 c1
        go_wp2_with fail
        clear hix
        go_loopw [4, 5, 23] (fun va vb vi wr => ∃ (i : Nat) (a b : Int), i ≤ n0 ∧ va = .int .i64 a ∧ vb = .int .i64 b ∧ vi = .int .i64 i ∧ Aside0 (sumW S38.f1 l1 (sumW S38.f1 (l0.drop i) a) = ra) ∧ Aside0 (sumW S38.f2 l1 (sumW S38.f2 (l0.drop i) b) = rb) ∧ Aside0 (bookAt wr w.heap.size t (.slice A0 n0 c0) (.slice A1 n1 c1) fl) ∧ Aside0 (Below w.heap.size w wr)) (fun _ _ vi _ => n0 - (intOf vi).toNat)
        case atStart => exact ⟨0, _, _, by omega, rfl, rfl, rfl, by rw [List.drop_zero]; exact HRA, by rw [List.drop_zero]; exact HRB, HBK, HBA⟩
        case round =>
          clear HRA HRB HBK HBA
          obtain ⟨i, a, b, hi, rfl, rfl, rfl, HRA, HRB, HBK, HBA⟩ := hrel
          by_cases hlt : i < n0
          · have hd1 : decide ((i : Int) < (n0 : Int)) = true := by simp; omega
            have hd2 : decide (i < n0) = true := by simp; omega
            have hra := HRA.out
            have hrb := HRB.out
            have hil : i < l0.length := by have := HN0.out; omega
            rw [drop38 l0 i hil] at hra hrb
            simp only [sumW] at hra hrb
            obtain ⟨ad, e, hx0, hx1, hx2⟩ := at_T38 H0.out (i : Int) (by omega) (by have := HN0.out; omega)
            subst e
            generalize rd_T38 l0 (i : Int) = s at *
            rw [Int.toNat_natCast] at hx0 hx1 hx2
            replace hx0 := (HBA.out.cell (World.block_lt_of_cell? w _ hx0)).trans hx0
            replace hx1 := (HBA.out.cell (World.block_lt_of_cell? w _ hx1)).trans hx1
            replace hx2 := (HBA.out.cell (World.block_lt_of_cell? w _ hx2)).trans hx2
            have HRA2 := Aside0.mk hra
            have HRB2 := Aside0.mk hrb
            obtain ⟨sa, sb, sc⟩ := s
            dsimp only at *
            have hya := below_alloc (Below.refl wr.heap.size wr) (.cells #[.int .i64 sa, .int .i64 sb, .int .i64 sc] 38)
            have HB2 := Aside0.mk (HBK.out.below hya HBK.out.lt)
            have HA2 := Aside0.mk (below_step HBA.out hya)
            have hw1 : IntKind.i64.wrap (a + sb) = wrap64 (a + sb) := i64_w _
            have hw2 : IntKind.i64.wrap (b + sc) = wrap64 (b + sc) := i64_w _
            clear hra hrb hya HRA HRB HBK HBA
            go_wp2_with fail
            go_roundw
            case rel => exact ⟨i + 1, wrap64 (a + sb), wrap64 (b + sc), by omega, by first | rfl | rw [hw1], by first | rfl | rw [hw2], by go_num, HRA2, HRB2, HB2, HA2⟩
            case measure => simp [intOf]; omega
          · obtain rfl : i = n0 := by omega
            have hd1 : decide ((i : Int) < (i : Int)) = false := by simp
            have hra := HRA.out
            have hrb := HRB.out
            rw [List.drop_eq_nil_of_le (by have := HN0.out; omega)] at hra hrb
            simp only [sumW] at hra hrb
            have HRA2 := Aside0.mk hra
            have HRB2 := Aside0.mk hrb
            clear hra hrb HRA HRB
            go_wp2_with fail
            go_roundw
            case rel => exact ⟨a, b, rfl, rfl, .inr (.inl ⟨rfl, HRA2, HRB2⟩), HBK, HBA⟩
            case measure => simp [intOf]
      · have hix := ix1 A0 n0 c0 A1 n1 c1
        go_wp2_with fail
        clear hix
        go_loopw [4, 5, 23] (fun va vb vi wr => ∃ (i : Nat) (a b : Int), i ≤ n1 ∧ va = .int .i64 a ∧ vb = .int .i64 b ∧ vi = .int .i64 i ∧ Aside0 (sumW S38.f1 (l1.drop i) a = ra) ∧ Aside0 (sumW S38.f2 (l1.drop i) b = rb) ∧ Aside0 (bookAt wr w.heap.size t (.slice A0 n0 c0) (.slice A1 n1 c1) fl) ∧ Aside0 (Below w.heap.size w wr)) (fun _ _ vi _ => n1 - (intOf vi).toNat)
        case atStart => exact ⟨0, _, _, by omega, rfl, rfl, rfl, by rw [List.drop_zero]; exact HRA, by rw [List.drop_zero]; exact HRB, HBK, HBA⟩
        case round =>
          clear HRA HRB HBK HBA
          obtain ⟨i, a, b, hi, rfl, rfl, rfl, HRA, HRB, HBK, HBA⟩ := hrel
          by_cases hlt : i < n1
          · have hd1 : decide ((i : Int) < (n1 : Int)) = true := by simp; omega
            have hd2 : decide (i < n1) = true := by simp; omega
            have hra := HRA.out
            have hrb := HRB.out
            have hil : i < l1.length := by have := HN1.out; omega
            rw [drop38 l1 i hil] at hra hrb
            simp only [sumW] at hra hrb
            obtain ⟨ad, e, hx0, hx1, hx2⟩ := at_T38 H1.out (i : Int) (by omega) (by have := HN1.out; omega)
            subst e
            generalize rd_T38 l1 (i : Int) = s at *
            rw [Int.toNat_natCast] at hx0 hx1 hx2
            replace hx0 := (HBA.out.cell (World.block_lt_of_cell? w _ hx0)).trans hx0
            replace hx1 := (HBA.out.cell (World.block_lt_of_cell? w _ hx1)).trans hx1
            replace hx2 := (HBA.out.cell (World.block_lt_of_cell? w _ hx2)).trans hx2
            have HRA2 := Aside0.mk hra
            have HRB2 := Aside0.mk hrb
            obtain ⟨sa, sb, sc⟩ := s
            dsimp only at *
            have hya := below_alloc (Below.refl wr.heap.size wr) (.cells #[.int .i64 sa, .int .i64 sb, .int .i64 sc] 38)
            have HB2 := Aside0.mk (HBK.out.below hya HBK.out.lt)
            have HA2 := Aside0.mk (below_step HBA.out hya)
            have hw1 : IntKind.i64.wrap (a + sb) = wrap64 (a + sb) := i64_w _
            have hw2 : IntKind.i64.wrap (b + sc) = wrap64 (b + sc) := i64_w _
            clear hra hrb hya HRA HRB HBK HBA
            go_wp2_with fail
            go_roundw
            case rel => exact ⟨i + 1, wrap64 (a + sb), wrap64 (b + sc), by omega, by first | rfl | rw [hw1], by first | rfl | rw [hw2], by go_num, HRA2, HRB2, HB2, HA2⟩
            case measure => simp [intOf]; omega
          · obtain rfl : i = n1 := by omega
            have hd1 : decide ((i : Int) < (i : Int)) = false := by simp
            have hra := HRA.out
            have hrb := HRB.out
            rw [List.drop_eq_nil_of_le (by have := HN1.out; omega)] at hra hrb
            simp only [sumW] at hra hrb
            have HRA2 := Aside0.mk hra
            have HRB2 := Aside0.mk hrb
            clear hra hrb HRA HRB
            go_wp2_with fail
            go_roundw
            case rel => exact ⟨a, b, rfl, rfl, .inr (.inr ⟨rfl, HRA2.out, HRB2.out⟩), HBK, HBA⟩
            case measure => simp [intOf]
      · go_wp2_with fail
        refine bodyPost_ret (results_tmp2 rfl _ _ _) rfl ?_
        exact ⟨rfl, HBA.out⟩
  · unfold begunP at hr
    rw [if_neg hc] at hr
    injection hr with hra hrb
    subst hra hrb
    have hne : (checkP t l0 l1 fl != 0) = true := bne_iff_ne.2 hc
    generalize checkP t l0 l1 fl = r at *
    clear hc
    go_enter Tryd.func12, Tryd.ntmps12
    go_wp2_with (go_at_call 15; refine HCA.out.mono ?_; rintro e W2 ⟨rfl, hB2⟩; have HA2 := Aside0.mk (below_step HBA.out hB2); clear hB2 HBK HBA hz0 hz1 hz2 hz3)
    refine bodyPost_ret (results_tmp2 rfl _ _ _) rfl ?_
    exact ⟨rfl, HA2.out⟩
end Go.Proofs.YtponmfnegdlppaaDoor.P

end
section
/- Runs of moves on a new book, in plain lists: what holds behind each move. -/
namespace Go.Proofs.YtponmfnegdlppaaDoor.P
open Go.RowKit Go.Proofs.YtponmfnegdlppaaDoorW.PrintWords Go.Proofs.YtponmfnegdlppaaDoorW.PrintLast Go.Proofs.YtponmfnegdlppaaDoorW.PrintMore
set_option linter.unusedVariables false

/-- a sum over all tasks -/
def sumL (f : S38 → Int) (L : List S38) : Int := (L.map f).sum
theorem sumL_set (f : S38 → Int) (L : List S38) (k : Nat) (h : k < L.length) (x : S38) : sumL f (L.set k x) = sumL f L - f L[k] + f x := by
  induction L generalizing k with
  | nil => cases h
  | cons y L ih =>
    cases k with
    | zero => simp [sumL]; omega
    | succ k =>
      have := ih k (by simpa using h)
      simp only [sumL, List.set_cons_succ, List.map_cons, List.sum_cons, List.getElem_cons_succ] at this ⊢
      omega
/-- how many tasks are charged as often as can be -/
def cntT (t : Int) (l : List S38) : Int := ((l.filter fun s => decide (s.f2 = t)).length : Nat)
theorem cntT_cons (t : Int) (s : S38) (l : List S38) : cntT t (s :: l) = (if s.f2 = t then 1 else 0) + cntT t l := by
  unfold cntT
  by_cases h : s.f2 = t
  · rw [List.filter_cons_of_pos (by simpa using h), if_pos h, List.length_cons]; omega
  · rw [List.filter_cons_of_neg (by simpa using h), if_neg h]; omega
theorem cntT_nonneg (t : Int) (l : List S38) : 0 ≤ cntT t l := Int.natCast_nonneg _
theorem scan_eq (t : Int) (held : Bool) : ∀ (l : List S38) (f : Int), (∀ s ∈ l, goodP t held s = true) → scanP t held l f = some (f + cntT t l)
  | [], f, _ => by simp [scanP, cntT]
  | s :: l, f, h => by
    rw [scanP, if_pos (h s (List.mem_cons_self ..)), scan_eq t held l _ (fun x m => h x (List.mem_cons_of_mem _ m)), cntT_cons]
    by_cases e : s.f2 = t
    · rw [if_pos e, if_pos e, Int.add_assoc]
    · rw [if_neg e, if_neg e, Int.zero_add]
theorem check_iff (t : Int) (l0 l1 : List S38) (fl : Bool) : checkP t l0 l1 fl = 0 ↔ (1 ≤ t ∧ t ≤ 16 ∧ l0.length ≤ 256 ∧ 1 ≤ l1.length ∧ l1.length ≤ 65535 ∧ (∀ s ∈ l0, goodP t false s = true) ∧ (∀ s ∈ l1, goodP t true s = true) ∧
    cntT t l0 + cntT t l1 ≤ 1 ∧ fl = decide (cntT t l0 + cntT t l1 = 1)) := by
  constructor
  · intro h
    obtain ⟨q1, q2, q3, q4, q5, q6, q7, f, g, h0, h1, h2, h3⟩ := check_ok h
    rw [scan_eq t false l0 0 q6] at h0
    have e0 := Option.some.inj h0
    rw [scan_eq t true l1 f q7] at h1
    have e1 := Option.some.inj h1
    have e : cntT t l0 + cntT t l1 = g := by omega
    rw [e]
    exact ⟨q1, q2, q3, q4, q5, q6, q7, by omega, h3⟩
  · rintro ⟨q1, q2, q3, q4, q5, q6, q7, q8, q9⟩
    unfold checkP
    rw [if_neg (by omega), if_neg (by omega), if_neg (by omega), if_neg (by omega), if_neg (by omega)]
    unfold scan0
    rw [scan_eq t false l0 0 q6]
    simp only [scan1]
    rw [scan_eq t true l1 _ q7]
    simp only [finP]
    rw [Int.zero_add, if_neg (by rintro (h | h); omega; exact h q9)]
structure INV (t : Int) (l0 l1 : List S38) (fl : Bool) (m r : Nat) (bg ch : Nat → Bool) (s c : Int) : Prop where
  check : checkP t l0 l1 fl = 0
  n0 : l0.length = m
  n1 : l1.length = r
  begun : ∀ (k : Nat) (h : k < (l0 ++ l1).length) (a : Nat), 1 ≤ a → a ≤ 16 → bg (k * 17 + a) = decide ((a : Int) ≤ ((l0 ++ l1)[k]).f1)
  charged : ∀ (k : Nat) (h : k < (l0 ++ l1).length) (a : Nat), 1 ≤ a → a ≤ 16 → ch (k * 17 + a) = decide ((a : Int) ≤ ((l0 ++ l1)[k]).f2)
  starts : s = sumL S38.f1 (l0 ++ l1)
  charges : c = sumL S38.f2 (l0 ++ l1)
/-- a new book, nothing noted -/
theorem INV.start {t : Int} {m r : Nat} (h1 : 1 ≤ t) (h2 : t ≤ 16) (hm : m ≤ 256) (hr : 1 ≤ r) (hr2 : r ≤ 65535) : INV t (List.replicate m z38) (List.replicate r z38) false m r (fun _ => false) (fun _ => false) 0 0 := by
  have g : ∀ held, goodP t held z38 = true := fun held => by unfold goodP z38; simp; omega
  have c0 : ∀ n, cntT t (List.replicate n z38) = 0 := fun n => by
    induction n with
    | zero => rfl
    | succ n ih => rw [List.replicate_succ, cntT_cons, ih]; unfold z38; rw [if_neg (by show ¬ (0 : Int) = t; omega)]; rfl
  have sum0 : ∀ (f : S38 → Int), f z38 = 0 → ∀ n, sumL f (List.replicate n z38) = 0 := fun f hf n => by
    induction n with
    | zero => rfl
    | succ n ih => unfold sumL at ih ⊢; rw [List.replicate_succ, List.map_cons, List.sum_cons, ih, hf]; rfl
  have app : List.replicate m z38 ++ List.replicate r z38 = List.replicate (m + r) z38 := by rw [List.replicate_append_replicate]
  have el : ∀ (k : Nat) (h : k < (List.replicate m z38 ++ List.replicate r z38).length), (List.replicate m z38 ++ List.replicate r z38)[k] = z38 := fun k h => by simp only [app, List.getElem_replicate]
  refine ⟨(check_iff _ _ _ _).2 ⟨h1, h2, by rw [List.length_replicate]; exact hm, by rw [List.length_replicate]; exact hr, by rw [List.length_replicate]; exact hr2, fun s m => ?_, fun s m => ?_, ?_, ?_⟩, List.length_replicate, List.length_replicate, fun k h a h3 h4 => ?_, fun k h a h3 h4 => ?_, ?_, ?_⟩
  · rw [List.eq_of_mem_replicate m]; exact g _
  · rw [List.eq_of_mem_replicate m]; exact g _
  · rw [c0, c0]; decide
  · rw [c0, c0]; rfl
  · rw [el]; exact (decide_eq_false (by show ¬ (a : Int) ≤ 0; omega)).symm
  · rw [el]; exact (decide_eq_false (by show ¬ (a : Int) ≤ 0; omega)).symm
  · rw [app, sum0 _ rfl]
  · rw [app, sum0 _ rfl]
theorem cntT_set (t : Int) (L : List S38) (k : Nat) (h : k < L.length) (x : S38) : cntT t (L.set k x) = cntT t L - (if (L[k]).f2 = t then 1 else 0) + (if x.f2 = t then 1 else 0) := by
  induction L generalizing k with
  | nil => cases h
  | cons y L ih =>
    cases k with
    | zero =>
      rw [List.set_cons_zero, cntT_cons, cntT_cons, List.getElem_cons_zero]
      omega
    | succ k =>
      have := ih k (by simpa using h)
      rw [List.set_cons_succ, cntT_cons, cntT_cons, this, List.getElem_cons_succ]
      omega
/-- A task's state gives way to another: the book, and what is noted, behind it. i: the task's place among all. -/
theorem INV.put {t : Int} {l0 l1 : List S38} {m r : Nat} {bg ch bg' ch' : Nat → Bool} {s c s' c' : Int} {l0' l1' : List S38} {fl' : Bool} (h : INV t l0 l1 false m r bg ch s c) (i : Nat) (hi : i < (l0 ++ l1).length) (x : S38)
    (hL : l0' ++ l1' = (l0 ++ l1).set i x) (hz : l0'.length = l0.length) (hg0 : ∀ y ∈ l0', goodP t false y = true) (hg1 : ∀ y ∈ l1', goodP t true y = true)
    (hn : ¬ ((l0 ++ l1)[i]).f2 = t) (hf : fl' = decide (x.f2 = t))
    (hb : ∀ (k a : Nat), k < m + r → 1 ≤ a → a ≤ 16 → bg' (k * 17 + a) = if k = i then decide ((a : Int) ≤ x.f1) else bg (k * 17 + a))
    (hc : ∀ (k a : Nat), k < m + r → 1 ≤ a → a ≤ 16 → ch' (k * 17 + a) = if k = i then decide ((a : Int) ≤ x.f2) else ch (k * 17 + a))
    (hs : s' = s - ((l0 ++ l1)[i]).f1 + x.f1) (hd : c' = c - ((l0 ++ l1)[i]).f2 + x.f2) : INV t l0' l1' fl' m r bg' ch' s' c' := by
  obtain ⟨q1, q2, q3, q4, q5, q6, q7, q8, q9⟩ := (check_iff _ _ _ _).1 h.check
  have hlen : (l0' ++ l1').length = (l0 ++ l1).length := by rw [hL, List.length_set]
  have hz1 : l1'.length = l1.length := by rw [List.length_append, List.length_append] at hlen; omega
  have happ : ∀ a b : List S38, cntT t (a ++ b) = cntT t a + cntT t b := fun a b => by unfold cntT; rw [List.filter_append, List.length_append]; omega
  have hz0 : cntT t l0 + cntT t l1 = 0 := by
    have p0 := cntT_nonneg t l0
    have p1 := cntT_nonneg t l1
    have : ¬ cntT t l0 + cntT t l1 = 1 := fun e => by rw [e] at q9; cases q9
    omega
  have hcnt : cntT t l0' + cntT t l1' = if x.f2 = t then 1 else 0 := by
    rw [← happ, hL, cntT_set t _ i hi, happ, hz0, if_neg hn]
    omega
  have hmr : (l0 ++ l1).length = m + r := by rw [List.length_append, h.n0, h.n1]
  refine ⟨(check_iff _ _ _ _).2 ⟨q1, q2, by omega, by omega, by omega, hg0, hg1, ?_, ?_⟩, by rw [hz]; exact h.n0, by rw [hz1]; exact h.n1, fun k hk a h1 h2 => ?_, fun k hk a h1 h2 => ?_, ?_, ?_⟩
  · rw [hcnt]; split <;> omega
  · rw [hcnt, hf]
    by_cases e : x.f2 = t
    · rw [if_pos e, decide_eq_true e]; rfl
    · rw [if_neg e, decide_eq_false e]; rfl
  · rw [hb k a (by omega) h1 h2]
    simp only [hL]
    rw [List.getElem_set]
    by_cases e : k = i
    · rw [if_pos e, if_pos e.symm]
    · rw [if_neg e, if_neg (fun q => e q.symm), h.begun k (by omega) a h1 h2]
  · rw [hc k a (by omega) h1 h2]
    simp only [hL]
    rw [List.getElem_set]
    by_cases e : k = i
    · rw [if_pos e, if_pos e.symm]
    · rw [if_neg e, if_neg (fun q => e q.symm), h.charged k (by omega) a h1 h2]
  · rw [hL, sumL_set _ _ i hi, ← h.starts, hs]
  · rw [hL, sumL_set _ _ i hi, ← h.charges, hd]
end Go.Proofs.YtponmfnegdlppaaDoor.P

end
section
/- Behind a Begin. -/
namespace Go.Proofs.YtponmfnegdlppaaDoor.P
open Go.RowKit Go.Proofs.YtponmfnegdlppaaDoorW.PrintWords Go.Proofs.YtponmfnegdlppaaDoorW.PrintLast Go.Proofs.YtponmfnegdlppaaDoorW.PrintMore
set_option linter.unusedVariables false

/-- a task's place among all -/
def place (m : Nat) (k b : Int) : Nat := if k = 0 then b.toNat else m + b.toNat
theorem upd_eq (f : Nat → Bool) (i a k j : Nat) (ha : a ≤ 16) (hj : j ≤ 16) (v : S38 → Int) : upd f (i * 17 + a) (k * 17 + j) = if k = i then (if j = a then true else f (k * 17 + j)) else f (k * 17 + j) := by
  unfold upd
  by_cases h : k = i
  · subst h
    rw [if_pos rfl]
    by_cases h2 : j = a
    · rw [if_pos (by omega), if_pos h2]
    · rw [if_neg (by omega), if_neg h2]
  · rw [if_neg h, if_neg (by omega)]
/-- the task's state in the list of all -/
theorem place_get {t : Int} {l0 l1 : List S38} {m : Nat} {k b : Int} (hm : l0.length = m) (h : (k = 0 ∧ ∃ n : Nat, b = n ∧ n < l0.length) ∨ (k = 1 ∧ ∃ n : Nat, b = n ∧ n < l1.length)) :
    ∃ hi : place m k b < (l0 ++ l1).length, (l0 ++ l1)[place m k b] = stP l0 l1 k b := by
  rcases h with ⟨rfl, n, rfl, hn⟩ | ⟨rfl, n, rfl, hn⟩
  · have e : place m 0 (n : Int) = n := by unfold place; rw [if_pos rfl, Int.toNat_natCast]
    have hi : n < (l0 ++ l1).length := by rw [List.length_append]; omega
    refine ⟨by rw [e]; exact hi, ?_⟩
    simp only [e]
    rw [List.getElem_append_left hn]
    unfold stP
    rw [if_pos rfl, rd38 l0 n hn]
  · have e : place m 1 (n : Int) = m + n := by unfold place; rw [if_neg (by decide), Int.toNat_natCast]
    have hi : m + n < (l0 ++ l1).length := by rw [List.length_append]; omega
    refine ⟨by rw [e]; exact hi, ?_⟩
    simp only [e]
    rw [List.getElem_append_right (by omega)]
    unfold stP
    rw [if_neg (by decide), rd38 l1 n hn]
    congr 1
    omega
/-- two lists laid together, one of them changed at a task's place -/
theorem place_set {l0 l1 : List S38} {m : Nat} {k b : Int} (hm : l0.length = m) (h : (k = 0 ∧ ∃ n : Nat, b = n ∧ n < l0.length) ∨ (k = 1 ∧ ∃ n : Nat, b = n ∧ n < l1.length)) (x : S38) :
    (if k = 0 then l0.set b.toNat x else l0) ++ (if k = 0 then l1 else l1.set b.toNat x) = (l0 ++ l1).set (place m k b) x := by
  rcases h with ⟨rfl, n, rfl, hn⟩ | ⟨rfl, n, rfl, hn⟩
  · unfold place
    rw [if_pos rfl, if_pos rfl, if_pos rfl, Int.toNat_natCast, List.set_append_left _ _ hn]
  · unfold place
    rw [if_neg (by decide), if_neg (by decide), if_neg (by decide), Int.toNat_natCast, List.set_append_right _ _ (by omega), ← hm, Nat.add_sub_cancel_left]
theorem mem_set_good {t : Int} {held : Bool} {l : List S38} {n : Nat} {x : S38} (h : ∀ y ∈ l, goodP t held y = true) (hx : goodP t held x = true) : ∀ y ∈ l.set n x, goodP t held y = true := by
  intro y m
  rcases List.mem_or_eq_of_mem_set m with m | rfl
  · exact h y m
  · exact hx
/-- what a Begin that goes well is -/
theorem begin_form {t : Int} {l0 l1 : List S38} {fl : Bool} {k b t' : Int} {l0' l1' : List S38} {fl' : Bool} {a : Int} {fr : Bool} (hb : beginP t l0 l1 fl k b = (t', l0', l1', fl', a, fr, 0)) :
    knownP t l0 l1 fl [⟨k, b⟩] = 0 ∧ fl = false ∧ t' = t ∧ fl' = false ∧ ((stP l0 l1 k b).f0 = 0 ∧ fr = true ∧ a = (stP l0 l1 k b).f1 + 1 ∨ (stP l0 l1 k b).f0 = 2 ∧ fr = false ∧ a = (stP l0 l1 k b).f1) ∧
    l0' = (if k = 0 then l0.set b.toNat ⟨1, a, (stP l0 l1 k b).f2⟩ else l0) ∧ l1' = (if k = 0 then l1 else l1.set b.toNat ⟨1, a, (stP l0 l1 k b).f2⟩) := by
  unfold beginP at hb
  by_cases hk : knownP t l0 l1 fl [⟨k, b⟩] = 0
  · rw [if_pos hk] at hb
    by_cases h1 : fl = true ∨ ((stP l0 l1 k b).f0 ≠ 0 ∧ (stP l0 l1 k b).f0 ≠ 2) ∨ (k = 1 ∧ allP l0 = false)
    · rw [if_pos h1] at hb
      simp only [Prod.mk.injEq] at hb
      exact absurd hb.2.2.2.2.2.2 (by decide)
    · rw [if_neg h1] at hb
      have hf : fl = false := by cases fl with | false => rfl | true => exact absurd (.inl rfl) h1
      refine ⟨hk, hf, ?_⟩
      by_cases h0 : (stP l0 l1 k b).f0 = 0
      · rw [if_pos h0] at hb
        unfold beginS at hb
        by_cases hz : k = 0
        · rw [if_pos hz] at hb
          simp only [Prod.mk.injEq] at hb
          obtain ⟨rfl, rfl, rfl, rfl, rfl, rfl, _⟩ := hb
          exact ⟨rfl, rfl, .inl ⟨h0, rfl, rfl⟩, by rw [if_pos hz], by rw [if_pos hz]⟩
        · rw [if_neg hz] at hb
          simp only [Prod.mk.injEq] at hb
          obtain ⟨rfl, rfl, rfl, rfl, rfl, rfl, _⟩ := hb
          exact ⟨rfl, rfl, .inl ⟨h0, rfl, rfl⟩, by rw [if_neg hz], by rw [if_neg hz]⟩
      · have h2 : (stP l0 l1 k b).f0 = 2 := by
          by_cases q : (stP l0 l1 k b).f0 = 2
          · exact q
          · exact absurd (.inr (.inl ⟨h0, q⟩)) h1
        rw [if_neg h0] at hb
        unfold beginS at hb
        by_cases hz : k = 0
        · rw [if_pos hz] at hb
          simp only [Prod.mk.injEq] at hb
          obtain ⟨rfl, rfl, rfl, rfl, rfl, rfl, _⟩ := hb
          exact ⟨rfl, rfl, .inr ⟨h2, rfl, rfl⟩, by rw [if_pos hz], by rw [if_pos hz]⟩
        · rw [if_neg hz] at hb
          simp only [Prod.mk.injEq] at hb
          obtain ⟨rfl, rfl, rfl, rfl, rfl, rfl, _⟩ := hb
          exact ⟨rfl, rfl, .inr ⟨h2, rfl, rfl⟩, by rw [if_neg hz], by rw [if_neg hz]⟩
  · rw [if_neg hk] at hb
    simp only [Prod.mk.injEq] at hb
    exact absurd hb.2.2.2.2.2.2 hk
end Go.Proofs.YtponmfnegdlppaaDoor.P

end
section
/- Behind any move: what the notes want, and what holds. -/
namespace Go.Proofs.YtponmfnegdlppaaDoor.P
open Go.RowKit Go.Proofs.YtponmfnegdlppaaDoorW.PrintWords Go.Proofs.YtponmfnegdlppaaDoorW.PrintLast Go.Proofs.YtponmfnegdlppaaDoorW.PrintMore
set_option linter.unusedVariables false

theorem cntT_zero {t : Int} {l : List S38} (h : cntT t l = 0) : ∀ y ∈ l, y.f2 ≠ t := by
  intro y m e
  unfold cntT at h
  have : 0 < (l.filter fun s => decide (s.f2 = t)).length := List.length_pos_of_mem (List.mem_filter.2 ⟨m, decide_eq_true e⟩)
  omega
theorem goodP_of {t : Int} {held : Bool} {s : S38} (h1 : s.f0 = 0 ∨ s.f0 = 1 ∨ s.f0 = 2 ∧ held = true ∨ s.f0 = 3) (h3 : s.f0 = 0 → s.f1 = s.f2) (h4 : s.f0 ≠ 0 → s.f1 = s.f2 + 1) (h5 : 0 ≤ s.f2) (h6 : s.f2 ≤ t) (h7 : s.f2 = t → s.f0 = 0) : goodP t held s = true := by
  unfold goodP
  simp only [Bool.and_eq_true, Bool.or_eq_true, Bool.not_eq_true', decide_eq_false_iff_not, decide_eq_true_eq]
  refine ⟨by omega, by omega, ?_, by omega, by omega, ?_, ?_⟩
  · rcases h1 with h | h | h | h
    · exact .inr (by omega)
    · exact .inr (by omega)
    · exact .inl h.2
    · exact .inr (by omega)
  · by_cases e : s.f0 = 0
    · rw [if_pos e, h3 e]; omega
    · rw [if_neg e]; exact h4 e
  · by_cases e : s.f2 = t
    · exact .inr (h7 e)
    · exact .inl e
/-- what is known of a task of a book that has not failed -/
theorem INV.task {t : Int} {l0 l1 : List S38} {m r : Nat} {bg ch : Nat → Bool} {s c k b : Int} (h : INV t l0 l1 false m r bg ch s c) (hT : (k = 0 ∧ ∃ n : Nat, b = n ∧ n < l0.length) ∨ (k = 1 ∧ ∃ n : Nat, b = n ∧ n < l1.length)) :
    ∃ x, x = stP l0 l1 k b ∧ (x.f0 = 0 ∨ x.f0 = 1 ∨ (x.f0 = 2 ∧ k ≠ 0) ∨ x.f0 = 3) ∧ (x.f0 = 0 → x.f1 = x.f2) ∧ (x.f0 ≠ 0 → x.f1 = x.f2 + 1) ∧ 0 ≤ x.f2 ∧ x.f2 < t ∧ t ≤ 16 := by
  obtain ⟨q1, q2, q3, q4, q5, q6, q7, q8, q9⟩ := (check_iff _ _ _ _).1 h.check
  have p0 := cntT_nonneg t l0
  have p1 := cntT_nonneg t l1
  have hz : ¬ cntT t l0 + cntT t l1 = 1 := fun e => by rw [e] at q9; cases q9
  refine ⟨_, rfl, ?_⟩
  rcases hT with ⟨rfl, n, rfl, hn⟩ | ⟨rfl, n, rfl, hn⟩
  · unfold stP
    rw [if_pos rfl]
    obtain ⟨g1, g2, g3, g4, g5, g6, g7⟩ := good_state (q6 _ (rd_mem hn))
    have h2 := g2 rfl
    have h3 := cntT_zero (t := t) (l := l0) (by omega) _ (rd_mem hn)
    exact ⟨by omega, g3, g4, g5, by omega, q2⟩
  · unfold stP
    rw [if_neg (by decide)]
    obtain ⟨g1, g2, g3, g4, g5, g6, g7⟩ := good_state (q7 _ (rd_mem hn))
    have h3 := cntT_zero (t := t) (l := l1) (by omega) _ (rd_mem hn)
    exact ⟨by omega, g3, g4, g5, by omega, q2⟩
/-- one task's state gives way -/
theorem INV.move {t : Int} {l0 l1 : List S38} {fl' : Bool} {m r : Nat} {bg ch bg' ch' : Nat → Bool} {s c s' c' k b : Int} (h : INV t l0 l1 false m r bg ch s c) (hT : (k = 0 ∧ ∃ n : Nat, b = n ∧ n < l0.length) ∨ (k = 1 ∧ ∃ n : Nat, b = n ∧ n < l1.length)) (x : S38)
    (hx0 : k = 0 → goodP t false x = true) (hx1 : k ≠ 0 → goodP t true x = true) (hn : (stP l0 l1 k b).f2 ≠ t) (hf : fl' = decide (x.f2 = t))
    (hb : ∀ (k' a : Nat), k' < m + r → 1 ≤ a → a ≤ 16 → bg' (k' * 17 + a) = if k' = place m k b then decide ((a : Int) ≤ x.f1) else bg (k' * 17 + a))
    (hc : ∀ (k' a : Nat), k' < m + r → 1 ≤ a → a ≤ 16 → ch' (k' * 17 + a) = if k' = place m k b then decide ((a : Int) ≤ x.f2) else ch (k' * 17 + a))
    (hs : s' = s - (stP l0 l1 k b).f1 + x.f1) (hd : c' = c - (stP l0 l1 k b).f2 + x.f2) :
    INV t (if k = 0 then l0.set b.toNat x else l0) (if k = 0 then l1 else l1.set b.toNat x) fl' m r bg' ch' s' c' := by
  obtain ⟨hi, hg⟩ := place_get h.n0 hT (t := t)
  obtain ⟨q1, q2, q3, q4, q5, q6, q7, _⟩ := (check_iff _ _ _ _).1 h.check
  refine h.put (place m k b) hi x (place_set h.n0 hT x) ?_ ?_ ?_ (by rw [hg]; exact hn) hf hb hc (by rw [hg]; exact hs) (by rw [hg]; exact hd)
  · by_cases e : k = 0
    · rw [if_pos e, List.length_set]
    · rw [if_neg e]
  · by_cases e : k = 0
    · rw [if_pos e]; exact mem_set_good (t := t) q6 (hx0 e)
    · rw [if_neg e]; exact q6
  · by_cases e : k = 0
    · rw [if_pos e]; exact q7
    · rw [if_neg e]; exact mem_set_good (t := t) q7 (hx1 e)
/-- what is noted of a task, in the place's words -/
theorem INV.noted {t : Int} {l0 l1 : List S38} {fl : Bool} {m r : Nat} {bg ch : Nat → Bool} {s c k b : Int} (h : INV t l0 l1 fl m r bg ch s c) (hT : (k = 0 ∧ ∃ n : Nat, b = n ∧ n < l0.length) ∨ (k = 1 ∧ ∃ n : Nat, b = n ∧ n < l1.length)) :
    ∀ a : Nat, 1 ≤ a → a ≤ 16 → bg (place m k b * 17 + a) = decide ((a : Int) ≤ (stP l0 l1 k b).f1) ∧ ch (place m k b * 17 + a) = decide ((a : Int) ≤ (stP l0 l1 k b).f2) := by
  obtain ⟨hi, hg⟩ := place_get h.n0 hT (t := t)
  intro a h1 h2
  rw [← hg]
  exact ⟨h.begun _ hi a h1 h2, h.charged _ hi a h1 h2⟩
theorem bdec {p q : Prop} [Decidable p] [Decidable q] (h : p ↔ q) : decide p = decide q := by
  by_cases e : p
  · rw [decide_eq_true e, decide_eq_true (h.1 e)]
  · rw [decide_eq_false e, decide_eq_false (fun x => e (h.2 x))]
/-- Behind a Begin that goes well. -/
theorem INV.begin {t : Int} {l0 l1 : List S38} {fl : Bool} {m r : Nat} {bg ch : Nat → Bool} {s c k b t' : Int} {l0' l1' : List S38} {fl' : Bool} {a : Int} {fr : Bool} (h : INV t l0 l1 fl m r bg ch s c) (hb : beginP t l0 l1 fl k b = (t', l0', l1', fl', a, fr, 0)) :
    t' = t ∧ ∃ n : Nat, a = n ∧ 1 ≤ n ∧ n ≤ 16 ∧ bg (place m k b * 17 + n) = (!fr) ∧ (1 < n → bg (place m k b * 17 + (n - 1)) = true) ∧ (fr = true → 1 < n → ch (place m k b * 17 + (n - 1)) = true) ∧
      INV t l0' l1' fl' m r (upd bg (place m k b * 17 + n)) ch (if fr = true then s + 1 else s) c ∧ ∃ x, l0' = (if k = 0 then l0.set b.toNat x else l0) ∧ l1' = (if k = 0 then l1 else l1.set b.toNat x) ∧ x.f1 = a ∧ x.f0 = 1 ∧ (stP l0 l1 k b).f0 ≠ 3 ∧ (stP l0 l1 k b).f0 ≠ 1 ∧ fl' = false := by
  obtain ⟨hk, rfl, rfl, rfl, hcase, e0, e1⟩ := begin_form hb
  obtain ⟨hc, hT⟩ := known_one hk
  obtain ⟨y, hy, g1, g3, g4, g5, g6, g7⟩ := h.task hT
  have hnt := h.noted hT
  rw [← hy] at hcase e0 e1 hnt ⊢
  have hf1 : ∃ n : Nat, a = n ∧ 1 ≤ n ∧ n ≤ 16 := by
    rcases hcase with ⟨z, _, rfl⟩ | ⟨z, _, rfl⟩
    · have := g3 z
      exact ⟨(y.f1 + 1).toNat, by omega, by omega, by omega⟩
    · have := g4 (by omega)
      exact ⟨y.f1.toNat, by omega, by omega, by omega⟩
  obtain ⟨n, rfl, hn1, hn2⟩ := hf1
  refine ⟨rfl, n, rfl, hn1, hn2, ?_, ?_, ?_, ?_, ⟨1, n, y.f2⟩, e0, e1, rfl, rfl, by omega, by omega, rfl⟩
  · rw [(hnt n hn1 hn2).1]
    rcases hcase with ⟨z, rfl, w⟩ | ⟨z, rfl, w⟩
    · exact decide_eq_false (by omega)
    · exact decide_eq_true (by omega)
  · intro h1
    rw [(hnt (n - 1) (by omega) (by omega)).1]
    exact decide_eq_true (by rcases hcase with ⟨z, _, w⟩ | ⟨z, _, w⟩ <;> omega)
  · intro h0 h1
    rw [(hnt (n - 1) (by omega) (by omega)).2]
    rcases hcase with ⟨z, _, w⟩ | ⟨z, w, _⟩
    · have := g3 z; exact decide_eq_true (by omega)
    · rw [h0] at w; cases w
  · have hgd : ∀ held, goodP t' held ⟨1, n, y.f2⟩ = true := fun held => goodP_of (.inr (.inl rfl)) (fun q => absurd q (by show ¬ (1 : Int) = 0; decide)) (fun _ => by
      show (n : Int) = y.f2 + 1
      rcases hcase with ⟨z, _, w⟩ | ⟨z, _, w⟩
      · have := g3 z; omega
      · have := g4 (by omega); omega) g5 (by show y.f2 ≤ t'; omega) (fun q => by have q : y.f2 = t' := q; omega)
    rw [e0, e1]
    refine h.move hT ⟨1, n, y.f2⟩ (fun _ => hgd _) (fun _ => hgd _) (by rw [← hy]; omega) (decide_eq_false (by show ¬ y.f2 = t'; omega)).symm ?_ ?_ ?_ ?_
    · intro k' j hk' h1 h2
      rw [upd_eq _ _ _ _ _ hn2 h2 S38.f1]
      by_cases e : k' = place m k b
      · rw [if_pos e, if_pos e, e]
        by_cases ej : j = n
        · rw [if_pos ej, ej]; exact (decide_eq_true (by show (n : Int) ≤ n; omega)).symm
        · rw [if_neg ej, (hnt j h1 h2).1]
          exact bdec (by show (j : Int) ≤ y.f1 ↔ (j : Int) ≤ n; rcases hcase with ⟨z, _, w⟩ | ⟨z, _, w⟩ <;> omega)
      · rw [if_neg e, if_neg e]
    · intro k' j hk' h1 h2
      by_cases e : k' = place m k b
      · rw [if_pos e, e, (hnt j h1 h2).2]
      · rw [if_neg e]
    · rw [← hy]
      rcases hcase with ⟨z, rfl, w⟩ | ⟨z, rfl, w⟩
      · rw [if_pos rfl]; show s + 1 = s - y.f1 + n; omega
      · rw [if_neg (by decide)]; show s = s - y.f1 + n; omega
    · rw [← hy]; show c = c - y.f2 + y.f2; omega
/-- what an end that goes well is -/
theorem end_form {t : Int} {l0 l1 : List S38} {fl : Bool} {k b t' : Int} {u : S38 → S38} {uf : S38 → Bool} {l0' l1' : List S38} {fl' : Bool} (h : endP t l0 l1 fl k b u uf = (t', l0', l1', fl', 0)) :
    knownP t l0 l1 fl [⟨k, b⟩] = 0 ∧ fl = false ∧ t' = t ∧ (stP l0 l1 k b).f0 = 1 ∧ fl' = uf (stP l0 l1 k b) ∧ l0' = (if k = 0 then l0.set b.toNat (u (stP l0 l1 k b)) else l0) ∧ l1' = (if k = 0 then l1 else l1.set b.toNat (u (stP l0 l1 k b))) := by
  unfold endP at h
  by_cases hk : knownP t l0 l1 fl [⟨k, b⟩] = 0
  · rw [if_pos hk] at h
    by_cases h1 : fl = true ∨ (stP l0 l1 k b).f0 ≠ 1
    · rw [if_pos h1] at h
      simp only [Prod.mk.injEq] at h
      exact absurd h.2.2.2.2 (by decide)
    · rw [if_neg h1] at h
      have hf : fl = false := by cases fl with | false => rfl | true => exact absurd (.inl rfl) h1
      have h1' : (stP l0 l1 k b).f0 = 1 := by
        by_cases q : (stP l0 l1 k b).f0 = 1
        · exact q
        · exact absurd (.inr q) h1
      by_cases hz : k = 0
      · rw [if_pos hz] at h
        simp only [Prod.mk.injEq] at h
        obtain ⟨rfl, rfl, rfl, rfl, _⟩ := h
        exact ⟨hk, hf, rfl, h1', rfl, by rw [if_pos hz], by rw [if_pos hz]⟩
      · rw [if_neg hz] at h
        simp only [Prod.mk.injEq] at h
        obtain ⟨rfl, rfl, rfl, rfl, _⟩ := h
        exact ⟨hk, hf, rfl, h1', rfl, by rw [if_neg hz], by rw [if_neg hz]⟩
  · rw [if_neg hk] at h
    simp only [Prod.mk.injEq] at h
    exact absurd h.2.2.2.2 hk
/-- Behind a running attempt that is done (state 3) or waits (state 2). -/
theorem INV.still {t : Int} {l0 l1 : List S38} {fl : Bool} {m r : Nat} {bg ch : Nat → Bool} {s c k b t' : Int} {v : Int} {l0' l1' : List S38} {fl' : Bool} (h : INV t l0 l1 fl m r bg ch s c) (hv : v = 3 ∨ v = 2 ∧ k ≠ 0) (hb : endP t l0 l1 fl k b (fun s => ⟨v, s.f1, s.f2⟩) (fun _ => false) = (t', l0', l1', fl', 0)) :
    t' = t ∧ fl' = false ∧ INV t l0' l1' fl' m r bg ch s c ∧ ∃ x, l0' = (if k = 0 then l0.set b.toNat x else l0) ∧ l1' = (if k = 0 then l1 else l1.set b.toNat x) ∧ (stP l0 l1 k b).f0 = 1 ∧ x = ⟨v, (stP l0 l1 k b).f1, (stP l0 l1 k b).f2⟩ := by
  obtain ⟨hk, rfl, rfl, h1, rfl, e0, e1⟩ := end_form hb
  obtain ⟨hc, hT⟩ := known_one hk
  obtain ⟨y, hy, g1, g3, g4, g5, g6, g7⟩ := h.task hT
  have hnt := h.noted hT
  rw [← hy] at h1 e0 e1 hnt ⊢
  refine ⟨rfl, rfl, ?_, _, e0, e1, h1, rfl⟩
  have g4' := g4 (by omega)
  have hgd : ∀ held, (v = 3 ∨ v = 2 ∧ held = true) → goodP t' held ⟨v, y.f1, y.f2⟩ = true := fun held hh => goodP_of (by
      rcases hh with hh | hh
      · exact .inr (.inr (.inr hh))
      · exact .inr (.inr (.inl hh))) (fun q => absurd (show v = 0 from q) (by rcases hv with e | e <;> omega)) (fun _ => g4') g5 (Int.le_of_lt g6) (fun q => absurd (show y.f2 = t' from q) (by omega))
  rw [e0, e1]
  refine h.move hT ⟨v, y.f1, y.f2⟩ (fun e => hgd false (.inl (hv.resolve_right (fun q => q.2 e)))) (fun e => hgd true (by rcases hv with q | q; exact .inl q; exact .inr ⟨q.1, rfl⟩)) (by rw [← hy]; omega) (decide_eq_false (by show ¬ y.f2 = t'; omega)).symm ?_ ?_ ?_ ?_
  · intro k' j hk' h1 h2
    by_cases e : k' = place m k b
    · rw [if_pos e, e, (hnt j h1 h2).1]
    · rw [if_neg e]
  · intro k' j hk' h1 h2
    by_cases e : k' = place m k b
    · rw [if_pos e, e, (hnt j h1 h2).2]
    · rw [if_neg e]
  · rw [← hy]; show s = s - y.f1 + y.f1; omega
  · rw [← hy]; show c = c - y.f2 + y.f2; omega
/-- A task in state 1 or 3 is charged. -/
theorem INV.charge {t : Int} {l0 l1 : List S38} {m r : Nat} {bg ch : Nat → Bool} {s c k b : Int} (h : INV t l0 l1 false m r bg ch s c) (hT : (k = 0 ∧ ∃ n : Nat, b = n ∧ n < l0.length) ∨ (k = 1 ∧ ∃ n : Nat, b = n ∧ n < l1.length)) (h1 : (stP l0 l1 k b).f0 = 1 ∨ (stP l0 l1 k b).f0 = 3) :
    ∃ n : Nat, (stP l0 l1 k b).f1 = n ∧ 1 ≤ n ∧ n ≤ 16 ∧ bg (place m k b * 17 + n) = true ∧ ch (place m k b * 17 + n) = false ∧
      INV t (if k = 0 then l0.set b.toNat ⟨0, (stP l0 l1 k b).f1, (stP l0 l1 k b).f2 + 1⟩ else l0) (if k = 0 then l1 else l1.set b.toNat ⟨0, (stP l0 l1 k b).f1, (stP l0 l1 k b).f2 + 1⟩) (decide ((stP l0 l1 k b).f2 + 1 = t)) m r bg (upd ch (place m k b * 17 + n)) s (c + 1) := by
  obtain ⟨y, hy, g1, g3, g4, g5, g6, g7⟩ := h.task hT
  have hnt := h.noted hT
  rw [← hy] at h1 hnt ⊢
  have g4' := g4 (by omega)
  obtain ⟨n, hn, hn1, hn2⟩ : ∃ n : Nat, y.f1 = n ∧ 1 ≤ n ∧ n ≤ 16 := ⟨y.f1.toNat, by omega, by omega, by omega⟩
  refine ⟨n, hn, hn1, hn2, ?_, ?_, ?_⟩
  · rw [(hnt n hn1 hn2).1]; exact decide_eq_true (by omega)
  · rw [(hnt n hn1 hn2).2]; exact decide_eq_false (by omega)
  have hgd : ∀ held, goodP t held ⟨0, y.f1, y.f2 + 1⟩ = true := fun held => goodP_of (.inl rfl) (fun _ => g4') (fun q => absurd rfl q) (by show 0 ≤ y.f2 + 1; omega) (by show y.f2 + 1 ≤ t; omega) (fun _ => rfl)
  refine h.move hT ⟨0, y.f1, y.f2 + 1⟩ (fun _ => hgd _) (fun _ => hgd _) (by rw [← hy]; omega) rfl ?_ ?_ ?_ ?_
  · intro k' j hk' h1 h2
    by_cases e : k' = place m k b
    · rw [if_pos e, e, (hnt j h1 h2).1]
    · rw [if_neg e]
  · intro k' j hk' h1 h2
    rw [upd_eq _ _ _ _ _ hn2 h2 S38.f1]
    by_cases e : k' = place m k b
    · rw [if_pos e, if_pos e, e]
      by_cases ej : j = n
      · rw [if_pos ej, ej]; exact (decide_eq_true (by show (n : Int) ≤ y.f2 + 1; omega)).symm
      · rw [if_neg ej, (hnt j h1 h2).2]
        exact bdec (by show (j : Int) ≤ y.f2 ↔ (j : Int) ≤ y.f2 + 1; omega)
    · rw [if_neg e, if_neg e]
  · rw [← hy]; show s = s - y.f1 + y.f1; omega
  · rw [← hy]; show c + 1 = c - y.f2 + (y.f2 + 1); omega
end Go.Proofs.YtponmfnegdlppaaDoor.P

end
section
/- Numbers out of a range, a task by its place: in plain numbers. -/
namespace Go.Proofs.YtponmfnegdlppaaDoor.P
open Go.RowKit Go.Proofs.YtponmfnegdlppaaDoorW.PrintWords Go.Proofs.YtponmfnegdlppaaDoorW.PrintLast Go.Proofs.YtponmfnegdlppaaDoorW.PrintMore
set_option linter.unusedVariables false

/-- the number that few tells -/
def fewP (n lo hi : Int) : Int := if Int.tmod n (hi - lo + 1) < 0 then lo + (Int.tmod n (hi - lo + 1) + hi - lo + 1) else lo + Int.tmod n (hi - lo + 1)
theorem fewP_in (n lo hi : Int) (h : lo ≤ hi) : lo ≤ fewP n lo hi ∧ fewP n lo hi ≤ hi := by
  unfold fewP
  have h1 : Int.tmod n (hi - lo + 1) < hi - lo + 1 := Int.tmod_lt_of_pos n (by omega)
  have h2 : -(hi - lo + 1) < Int.tmod n (hi - lo + 1) := by
    have := Int.tmod_lt_of_pos (-n) (show 0 < hi - lo + 1 by omega)
    rw [Int.neg_tmod] at this
    omega
  generalize Int.tmod n (hi - lo + 1) = k at h1 h2 ⊢
  split <;> omega
theorem w64 {n : Int} (h1 : -1000000 ≤ n) (h2 : n ≤ 1000000) : wrap64 n = n := by unfold wrap64; omega
theorem few_eq (n lo hi : Int) (h1 : 0 ≤ lo) (h : lo ≤ hi) (h2 : hi ≤ 1000) : winnowlaw19_few.f n lo hi = some (fewP n lo hi) := by
  unfold winnowlaw19_few.f
  rw [w64 (n := hi - lo) (by omega) (by omega), w64 (n := hi - lo + 1) (by omega) (by omega), if_neg (by omega)]
  have g1 : Int.tmod n (hi - lo + 1) < hi - lo + 1 := Int.tmod_lt_of_pos n (by omega)
  have g2 : -(hi - lo + 1) < Int.tmod n (hi - lo + 1) := by
    have := Int.tmod_lt_of_pos (-n) (show 0 < hi - lo + 1 by omega)
    rw [Int.neg_tmod] at this
    omega
  unfold fewP
  generalize Int.tmod n (hi - lo + 1) = k at g1 g2 ⊢
  by_cases e : k < 0
  · rw [if_pos e, if_pos e, w64 (n := k + hi) (by omega) (by omega), w64 (n := k + hi - lo) (by omega) (by omega), w64 (n := k + hi - lo + 1) (by omega) (by omega), w64 (by omega) (by omega)]
  · rw [if_neg e, if_neg e, w64 (by omega) (by omega)]
/-- the task at a place among all -/
def pickK (who : Int) (m r : Nat) : Int := if fewP who 0 ((m : Int) + r - 1) < m then 0 else 1
def pickB (who : Int) (m r : Nat) : Int := if fewP who 0 ((m : Int) + r - 1) < m then fewP who 0 ((m : Int) + r - 1) else fewP who 0 ((m : Int) + r - 1) - m
theorem picked_eq (who : Int) (m r : Nat) (hm : m ≤ 6) (hr : 1 ≤ r) (hr2 : r ≤ 6) : winnowlaw19_picked.f who m r = some (pickK who m r, pickB who m r) := by
  unfold winnowlaw19_picked.f pickK pickB
  rw [w64 (n := (m : Int) + r) (by omega) (by omega), w64 (n := (m : Int) + r - 1) (by omega) (by omega), few_eq _ _ _ (by omega) (by omega) (by omega)]
  have h := fewP_in who 0 ((m : Int) + r - 1) (by omega)
  generalize fewP who 0 ((m : Int) + r - 1) = k at h ⊢
  simp only [Option.bind_some]
  by_cases e : k < (m : Int)
  · rw [if_pos e, if_pos e, if_pos e]
  · rw [if_neg e, if_neg e, if_neg e, w64 (by omega) (by omega)]
theorem pick_in (who : Int) (m r : Nat) (hr : 1 ≤ r) : (pickK who m r = 0 ∧ ∃ n : Nat, pickB who m r = n ∧ n < m) ∨ (pickK who m r = 1 ∧ ∃ n : Nat, pickB who m r = n ∧ n < r) := by
  unfold pickK pickB
  have h := fewP_in who 0 ((m : Int) + r - 1) (by omega)
  generalize fewP who 0 ((m : Int) + r - 1) = k at h ⊢
  by_cases e : k < (m : Int)
  · rw [if_pos e, if_pos e]
    exact .inl ⟨rfl, k.toNat, by omega, by omega⟩
  · rw [if_neg e, if_neg e]
    exact .inr ⟨rfl, (k - m).toNat, by omega, by omega⟩
theorem number_eq (k b : Int) (m r : Nat) (hm : m ≤ 6) (hr2 : r ≤ 6) (h : (k = 0 ∧ ∃ n : Nat, b = n ∧ n < m) ∨ (k = 1 ∧ ∃ n : Nat, b = n ∧ n < r)) : winnowlaw19_number.f k b m = some ((place m k b : Nat) : Int) ∧ place m k b < 12 := by
  unfold winnowlaw19_number.f place
  rcases h with ⟨rfl, n, rfl, hn⟩ | ⟨rfl, n, rfl, hn⟩
  · rw [if_pos rfl, if_pos rfl, Int.toNat_natCast]
    exact ⟨rfl, by omega⟩
  · rw [if_neg (by decide), if_neg (by decide), Int.toNat_natCast, w64 (by omega) (by omega)]
    exact ⟨by congr 1, by omega⟩
theorem attempt_eq (t : Int) (l0 l1 : List S38) (fl : Bool) (k b : Int) (h : (k = 0 ∧ ∃ n : Nat, b = n ∧ n < l0.length) ∨ (k = 1 ∧ ∃ n : Nat, b = n ∧ n < l1.length)) : winnowlaw19_attempt.f t l0 l1 fl k b = some (stP l0 l1 k b).f1 := by
  unfold winnowlaw19_attempt.f stP
  rcases h with ⟨rfl, n, rfl, hn⟩ | ⟨rfl, n, rfl, hn⟩
  · rw [if_pos rfl, if_pos rfl, if_pos (by omega), if_pos (by omega)]
  · rw [if_neg (show ¬ (1 : Int) = 0 by decide), if_neg (show ¬ (1 : Int) = 0 by decide), if_pos (by omega), if_pos (by omega)]
theorem sized_eq (t : Int) (l0 l1 : List S38) (fl : Bool) (m r : Nat) (h0 : l0.length = m) (h1 : l1.length = r) : winnowlaw19_sized.f t l0 l1 fl m r = some true := by
  unfold winnowlaw19_sized.f
  rw [if_pos (by omega), beq_iff_eq.2 (by omega)]
/-- what a move leaves as it was -/
structure Stays (o tk tb : Int) (mt rt : Nat) (fl : Bool) (l0 l1 l0' l1' : List S38) (fl' : Bool) : Prop where
  maps : ∀ (k : Nat) (h : k < l0.length) (h' : k < l0'.length), ¬ (o ≠ 3 ∧ tk = 0 ∧ tb = k ∨ o = 3 ∧ mt = k) → l0'[k] = l0[k]
  done : ∀ (k : Nat) (h : k < l0.length) (h' : k < l0'.length), (l0[k]).f0 = 3 → (l0'[k]).f0 ≠ 3 → o = 3 ∧ (l0'[k]).f2 = (l0[k]).f2 + 1
  reds : ∀ (k : Nat) (h : k < l1.length) (h' : k < l1'.length), ¬ (o ≠ 3 ∧ tk = 1 ∧ tb = k ∨ o = 3 ∧ rt = k) → l1'[k] = l1[k]
  rdone : ∀ (k : Nat) (h : k < l1.length) (h' : k < l1'.length), (l1[k]).f0 = 3 → l1'[k] = l1[k]
  failed : fl = true → l0' = l0 ∧ l1' = l1 ∧ fl' = true
theorem Stays.same (o tk tb : Int) (mt rt : Nat) (fl : Bool) (l0 l1 : List S38) : Stays o tk tb mt rt fl l0 l1 l0 l1 fl :=
  ⟨fun _ _ _ _ => rfl, fun _ _ _ h h' => absurd h h', fun _ _ _ _ => rfl, fun _ _ _ _ => rfl, fun h => ⟨rfl, rfl, h⟩⟩
/-- one task's state, not done, gives way -/
theorem Stays.one {o tk tb : Int} {mt rt : Nat} {l0 l1 : List S38} {fl' : Bool} (ho : o ≠ 3) (hT : (tk = 0 ∧ ∃ n : Nat, tb = n ∧ n < l0.length) ∨ (tk = 1 ∧ ∃ n : Nat, tb = n ∧ n < l1.length)) (x : S38) (hn : (stP l0 l1 tk tb).f0 ≠ 3) :
    Stays o tk tb mt rt false l0 l1 (if tk = 0 then l0.set tb.toNat x else l0) (if tk = 0 then l1 else l1.set tb.toNat x) fl' := by
  rcases hT with ⟨rfl, n, rfl, hn'⟩ | ⟨rfl, n, rfl, hn'⟩
  · simp only [if_pos, Int.toNat_natCast]
    unfold stP at hn
    rw [if_pos rfl, rd38 l0 n hn'] at hn
    refine ⟨fun k h h' hne => ?_, fun k h h' q q' => ?_, fun _ _ _ _ => rfl, fun _ _ _ _ => rfl, fun h => by cases h⟩
    · rw [List.getElem_set_ne (fun e => hne (.inl ⟨ho, rfl, by rw [e]⟩))]
    · by_cases e : n = k
      · subst e; exact absurd q hn
      · rw [List.getElem_set_ne e] at q'; exact absurd q q'
  · simp only [if_neg (show ¬ (1 : Int) = 0 by decide), Int.toNat_natCast]
    unfold stP at hn
    rw [if_neg (by decide), rd38 l1 n hn'] at hn
    refine ⟨fun _ _ _ _ => rfl, fun _ _ _ q q' => absurd q q', fun k h h' hne => ?_, fun k h h' q => ?_, fun h => by cases h⟩
    · rw [List.getElem_set_ne (fun e => hne (.inl ⟨ho, rfl, by rw [e]⟩))]
    · by_cases e : n = k
      · subst e; exact absurd q hn
      · rw [List.getElem_set_ne e]
end Go.Proofs.YtponmfnegdlppaaDoor.P

end
section
/- What is noted of a Begin, of a charge: contracts by hand (printed by HNotes.gen.py). -/
namespace Go.Proofs.YtponmfnegdlppaaDoor.P
open Go.RowKit Go.Proofs.YtponmfnegdlppaaDoorW.PrintWords Go.Proofs.YtponmfnegdlppaaDoorW.PrintLast Go.Proofs.YtponmfnegdlppaaDoorW.PrintMore
set_option linter.unusedVariables false
set_option linter.unusedSimpArgs false

set_option maxHeartbeats 4000000 in
theorem charge_env {w0 W : World} {B : List Bx} {R : List It} {g : Nat} {bg ch : Nat → Bool} {s c : Int} (k a : Nat) (h : Env w0 (⟨g, ncells bg ch s c, 56⟩ :: B) R W) (hk : k < 16) (ha : 1 ≤ a) (ha2 : a ≤ 16) (hb : bg (k * 17 + a) = true) (hc : ch (k * 17 + a) = false) (hs : 0 ≤ c ∧ c ≤ 1000000000000) :
    Calls Tryd.prog 64 #[.pointer (some ⟨g, 0, none⟩), .int .i64 k, .int .i64 a] W fun e W' => e = .returned (.bool true) ∧ Env w0 (⟨g, ncells bg (upd ch (k * 17 + a)) s (c + 1), 56⟩ :: B) R W' := by
  have x1 : W.cell? ⟨g, k * 17 + a, none⟩ = some (.bool true) := by rw [← hb]; exact h.at_ 0 (k * 17 + a) rfl (ncells_bg bg ch s c _ (by omega))
  have x2 : W.cell? ⟨g, 272 + k * 17 + a, none⟩ = some (.bool false) := by rw [← hc, Nat.add_assoc]; exact h.at_ 0 (272 + (k * 17 + a)) rfl (ncells_ch bg ch s c _ (by omega))
  have x3 : W.cell? ⟨g, 545, none⟩ = some (.int .i64 c) := h.at_ 0 545 rfl (ncells_c bg ch s c)
  have f2 : W.frozen? ⟨g, 272 + k * 17 + a, none⟩ = false := h.fr_ 0 _ rfl
  have f3 : W.frozen? ⟨g, 545, none⟩ = false := h.fr_ 0 _ rfl
  have hE := (h.set (272 + (k * 17 + a)) (.bool true)).set 545 (.int .i64 (c + 1))
  rw [ncells_set_ch _ _ _ _ _ (by omega), ncells_set_c, ← Nat.add_assoc] at hE
  have HE := Aside0.mk hE
  have y3 : (W.setCell ⟨g, 272 + k * 17 + a, none⟩ (.bool true)).cell? ⟨g, 545, none⟩ = some (.int .i64 c) := by
    have q := h.set (272 + (k * 17 + a)) (.bool true)
    rw [ncells_set_ch _ _ _ _ _ (by omega), ← Nat.add_assoc] at q
    exact q.at_ 0 545 rfl (ncells_c _ _ _ _)
  have hw : IntKind.i64.wrap (c + 1) = c + 1 := by rw [IntKind.wrap_i64]; omega
  have hu52 := Tryd.underlying52
  have hu53 := Tryd.underlying53
  have hu54 := Tryd.underlying54
  have hu56 := Tryd.underlying56
  have p1 : ((0 : Int) ≤ (k : Int)) = True := eq_true (by omega)
  have p2 : ((k : Int) < 16) = True := eq_true (by omega)
  have p3 : ((0 : Int) ≤ (a : Int)) = True := eq_true (by omega)
  have p4 : ((a : Int) < 17) = True := eq_true (by omega)
  have e1 : decide ((a : Int) < 1) = false := decide_eq_false (by omega)
  have e2 : decide (16 < (a : Int)) = false := decide_eq_false (by omega)
  clear hE h hb hc
  go_enter Tryd.func64, Tryd.ntmps64
  go_wp2_with fail
  go_ret
  exact ⟨rfl, HE.out⟩

set_option maxHeartbeats 4000000 in
theorem begin_env {w0 W : World} {B : List Bx} {R : List It} {g : Nat} {bg ch : Nat → Bool} {s c : Int} (k a : Nat) (fr : Bool) (h : Env w0 (⟨g, ncells bg ch s c, 56⟩ :: B) R W) (hk : k < 16) (ha : 1 ≤ a) (ha2 : a ≤ 16) (hb : bg (k * 17 + a) = !fr)
    (hp : 1 < a → bg (k * 17 + (a - 1)) = true) (hc : fr = true → 1 < a → ch (k * 17 + (a - 1)) = true) (hs : 0 ≤ s ∧ s ≤ 1000000000000) :
    Calls Tryd.prog 62 #[.pointer (some ⟨g, 0, none⟩), .int .i64 k, .int .i64 a, .bool fr] W fun e W' => e = .returned (.bool true) ∧ Env w0 (⟨g, ncells (upd bg (k * 17 + a)) ch (if fr = true then s + 1 else s) c, 56⟩ :: B) R W' := by
  have x1 : W.cell? ⟨g, k * 17 + a, none⟩ = some (.bool (!fr)) := by rw [← hb]; exact h.at_ 0 (k * 17 + a) rfl (ncells_bg bg ch s c _ (by omega))
  have f1 : W.frozen? ⟨g, k * 17 + a, none⟩ = false := h.fr_ 0 _ rfl
  have x3 : W.cell? ⟨g, 544, none⟩ = some (.int .i64 s) := h.at_ 0 544 rfl (ncells_s bg ch s c)
  have f3 : W.frozen? ⟨g, 544, none⟩ = false := h.fr_ 0 _ rfl
  have hw : IntKind.i64.wrap (s + 1) = s + 1 := by rw [IntKind.wrap_i64]; omega
  have hu52 := Tryd.underlying52
  have hu53 := Tryd.underlying53
  have hu54 := Tryd.underlying54
  have hu56 := Tryd.underlying56
  have p1 : ((0 : Int) ≤ (k : Int)) = True := eq_true (by omega)
  have p2 : ((k : Int) < 16) = True := eq_true (by omega)
  have p3 : ((0 : Int) ≤ (a : Int)) = True := eq_true (by omega)
  have p4 : ((a : Int) < 17) = True := eq_true (by omega)
  have e1 : decide ((a : Int) < 1) = false := decide_eq_false (by omega)
  have e2 : decide (16 < (a : Int)) = false := decide_eq_false (by omega)
  by_cases h1 : 1 < a
  · have e3 : decide (1 < (a : Int)) = true := decide_eq_true (by omega)
    obtain ⟨a', rfl⟩ : ∃ a', a = a' + 1 := ⟨a - 1, by omega⟩
    rw [Nat.add_sub_cancel] at hp hc
    have hw1 : IntKind.i64.wrap (((a' + 1 : Nat) : Int) - 1) = (a' : Int) := by rw [IntKind.wrap_i64]; omega
    have hw1' : IntKind.i64.wrap ((a' : Int) + 1 - 1) = (a' : Int) := by rw [IntKind.wrap_i64]; omega
    have p5 : ((0 : Int) ≤ (a' : Int)) = True := eq_true (by omega)
    have p6 : ((a' : Int) < 17) = True := eq_true (by omega)
    have x4 : W.cell? ⟨g, k * 17 + a', none⟩ = some (.bool true) := by rw [← hp h1]; exact h.at_ 0 (k * 17 + a') rfl (ncells_bg bg ch s c _ (by omega))
    cases fr
    · have hE := h.set (k * 17 + (a' + 1)) (.bool true)
      rw [ncells_set_bg _ _ _ _ _ (by omega)] at hE
      have HE := Aside0.mk hE
      clear hE h hb hp hc
      go_enter Tryd.func62, Tryd.ntmps62
      go_wp2_with fail
      go_ret
      exact ⟨rfl, HE.out⟩
    · have x5 : W.cell? ⟨g, 272 + k * 17 + a', none⟩ = some (.bool true) := by rw [← hc rfl h1, Nat.add_assoc]; exact h.at_ 0 (272 + (k * 17 + a')) rfl (ncells_ch bg ch s c _ (by omega))
      have hE := (h.set 544 (.int .i64 (s + 1))).set (k * 17 + (a' + 1)) (.bool true)
      have q := h.set 544 (.int .i64 (s + 1))
      rw [ncells_set_s] at q hE
      rw [ncells_set_bg _ _ _ _ _ (by omega)] at hE
      have y1 : (W.setCell ⟨g, 544, none⟩ (.int .i64 (s + 1))).cell? ⟨g, k * 17 + (a' + 1), none⟩ = some (.bool false) := by
        have := q.at_ 0 (k * 17 + (a' + 1)) rfl (ncells_bg bg ch (s + 1) c _ (by omega))
        rw [hb] at this
        exact this
      have y2 : (W.setCell ⟨g, 544, none⟩ (.int .i64 (s + 1))).frozen? ⟨g, k * 17 + (a' + 1), none⟩ = false := q.fr_ 0 _ rfl
      have HE := Aside0.mk hE
      clear hE h hb hp hc q
      go_enter Tryd.func62, Tryd.ntmps62
      go_wp2_with fail
      go_ret
      exact ⟨rfl, HE.out⟩
  · have e3 : decide (1 < (a : Int)) = false := decide_eq_false (by omega)
    cases fr
    · have hE := h.set (k * 17 + a) (.bool true)
      rw [ncells_set_bg _ _ _ _ _ (by omega)] at hE
      have HE := Aside0.mk hE
      clear hE h hb hp hc
      go_enter Tryd.func62, Tryd.ntmps62
      go_wp2_with fail
      go_ret
      exact ⟨rfl, HE.out⟩
    · have hE := (h.set 544 (.int .i64 (s + 1))).set (k * 17 + a) (.bool true)
      have q := h.set 544 (.int .i64 (s + 1))
      rw [ncells_set_s] at q hE
      rw [ncells_set_bg _ _ _ _ _ (by omega)] at hE
      have y1 : (W.setCell ⟨g, 544, none⟩ (.int .i64 (s + 1))).cell? ⟨g, k * 17 + a, none⟩ = some (.bool false) := by
        have := q.at_ 0 (k * 17 + a) rfl (ncells_bg bg ch (s + 1) c _ (by omega))
        rw [hb] at this
        exact this
      have y2 : (W.setCell ⟨g, 544, none⟩ (.int .i64 (s + 1))).frozen? ⟨g, k * 17 + a, none⟩ = false := q.fr_ 0 _ rfl
      have HE := Aside0.mk hE
      clear hE h hb hp hc q
      go_enter Tryd.func62, Tryd.ntmps62
      go_wp2_with fail
      go_ret
      exact ⟨rfl, HE.out⟩
end Go.Proofs.YtponmfnegdlppaaDoor.P

end
section
/- made: a move on a book, path by path (printed by HMade.gen.py). -/
namespace Go.Proofs.YtponmfnegdlppaaDoor.P
open Go.RowKit Go.Proofs.YtponmfnegdlppaaDoorW.PrintWords Go.Proofs.YtponmfnegdlppaaDoorW.PrintLast Go.Proofs.YtponmfnegdlppaaDoorW.PrintMore
set_option linter.unusedVariables false
set_option linter.unusedSimpArgs false

theorem Env.book4 {w0 W : World} {B : List Bx} {R : List It} {g t : Nat} {z0 z1 z2 z3 : Value} (h : Env w0 (⟨g, #[z0, z1, z2, z3], t⟩ :: B) R W) (v0 v1 v2 v3 : Value) :
    Env w0 (⟨g, #[v0, v1, v2, v3], t⟩ :: B) R ((((W.setCell ⟨g, 0, none⟩ v0).setCell ⟨g, 1, none⟩ v1).setCell ⟨g, 2, none⟩ v2).setCell ⟨g, 3, none⟩ v3) := (((h.set 0 v0).set 1 v1).set 2 v2).set 3 v3
theorem Env.bperm {w0 W : World} {B B' : List Bx} {R : List It} (h : Env w0 B R W) (p : B.Perm B') : Env w0 B' R W := by
  obtain ⟨h1, h2, h3, col, hB, hR⟩ := h
  exact ⟨h1, (p.map (·.g)).nodup_iff.1 h2, h3, col, fun b m => hB b (p.mem_iff.2 m), hR⟩
/-- a box to the front -/
theorem Env.bfront {w0 W : World} {R : List It} (B1 : List Bx) {b : Bx} {B2 : List Bx} (h : Env w0 (B1 ++ b :: B2) R W) : Env w0 (b :: (B1 ++ B2)) R W := h.bperm List.perm_middle
theorem Env.bf5 {w0 W : World} {R : List It} {b1 b2 b3 b4 b5 b : Bx} {B : List Bx} (h : Env w0 (b1 :: b2 :: b3 :: b4 :: b5 :: b :: B) R W) : Env w0 (b :: b1 :: b2 :: b3 :: b4 :: b5 :: B) R W := h.bperm (List.perm_middle (l₁ := [b1, b2, b3, b4, b5]))
theorem Env.bb5 {w0 W : World} {R : List It} {b1 b2 b3 b4 b5 b : Bx} {B : List Bx} (h : Env w0 (b :: b1 :: b2 :: b3 :: b4 :: b5 :: B) R W) : Env w0 (b1 :: b2 :: b3 :: b4 :: b5 :: b :: B) R W := h.bperm (List.perm_middle (l₁ := [b1, b2, b3, b4, b5])).symm
/-- four cells of the third box -/
theorem Env.st2 {w0 W : World} {B : List Bx} {R : List It} {a b : Bx} {g t : Nat} {z0 z1 z2 z3 : Value} (h : Env w0 (a :: b :: ⟨g, #[z0, z1, z2, z3], t⟩ :: B) R W) (v0 v1 v2 v3 : Value) :
    Env w0 (a :: b :: ⟨g, #[v0, v1, v2, v3], t⟩ :: B) R ((((W.setCell ⟨g, 0, none⟩ v0).setCell ⟨g, 1, none⟩ v1).setCell ⟨g, 2, none⟩ v2).setCell ⟨g, 3, none⟩ v3) :=
  ((h.bperm (List.perm_middle (l₁ := [a, b]))).book4 v0 v1 v2 v3).bperm (List.perm_middle (l₁ := [a, b])).symm
theorem Env.bback {w0 W : World} {R : List It} (B1 : List Bx) {b : Bx} {B2 : List Bx} (h : Env w0 (b :: (B1 ++ B2)) R W) : Env w0 (B1 ++ b :: B2) R W := h.bperm List.perm_middle.symm

set_option maxHeartbeats 8000000 in
set_option maxRecDepth 100000 in
theorem made_begin_err {w0 W : World} {B : List Bx} {gN : Nat} {bg ch : Nat → Bool} {s c t : Int} {A0 A1 : Option Addr} {p0 p1 : Nat} {l0 l1 : List S38} {fl : Bool} {x0 x1 x2 x3 : Int} {m r k : Nat} {tk tb : Int} (h : Env w0 (⟨gN, ncells bg ch s c, 56⟩ :: B) (⟨1, k38, 38, .slice A0 l0.length p0, l0⟩ :: ⟨2, k38, 38, .slice A1 l1.length p1, l1⟩ :: []) W) (hT : Tab w0) (hl0 : l0.length ≤ 6000000000000) (hl1 : l1.length ≤ 6000000000000)
    (hpk : winnowlaw19_picked.f x1 m r = some (tk, tb)) (hnu : winnowlaw19_number.f tk tb m = some (k : Int)) {r1 : Int} {r2 r3 : List S38} {r4 : Bool} {r5 : Int} {r6 : Bool} {r7 : Int} (hop : winnowlaw19_few.f x0 0 3 = some 0) (hb : beginP t l0 l1 fl tk tb = (r1, r2, r3, r4, r5, r6, r7)) (hne : r7 ≠ 0) :
    Calls Tryd.prog 35 #[.pointer (some ⟨gN, 0, none⟩), .agg #[.int .i64 t, .slice A0 l0.length p0, .slice A1 l1.length p1, .bool fl], .agg #[.int .i64 x0, .int .i64 x1, .int .i64 x2, .int .i64 x3], .int .i64 m, .int .i64 r] W fun e W' => e = .returned (.tuple #[.agg #[.int .i64 t, .slice A0 l0.length p0, .slice A1 l1.length p1, .bool fl], .bool true]) ∧ Env w0 (⟨gN, ncells bg ch s c, 56⟩ :: B) (⟨1, k38, 38, .slice A0 l0.length p0, l0⟩ :: ⟨2, k38, 38, .slice A1 l1.length p1, l1⟩ :: []) W' := by
  have HH := Aside0.mk h
  have HPK := Aside0.mk hpk
  have HNU := Aside0.mk hnu
  have HT := Aside0.mk hT
  have HL0 := Aside0.mk hl0
  have HL1 := Aside0.mk hl1
  have HOP := Aside0.mk hop
  have HB := Aside0.mk hb
  have HNE := Aside0.mk hne
  clear hpk hnu hT hl0 hl1 hop hb hne
  have z0 : (W.alloc (.cells #[.int .i64 t, .slice A0 l0.length p0, .slice A1 l1.length p1, .bool fl] 24)).heap.size = W.heap.size + 1 := by simp
  have z1 : ((W.alloc (.cells #[.int .i64 t, .slice A0 l0.length p0, .slice A1 l1.length p1, .bool fl] 24)).alloc (.cells #[.int .i64 x0, .int .i64 x1, .int .i64 x2, .int .i64 x3] 58)).heap.size = W.heap.size + 1 + 1 := by simp
  have hE0 := ((h.push #[.int .i64 t, .slice A0 l0.length p0, .slice A1 l1.length p1, .bool fl] 24).push #[.int .i64 x0, .int .i64 x1, .int .i64 x2, .int .i64 x3] 58).push #[.int .i64 0, .slice none 0 0, .slice none 0 0, .bool false] 24
  rw [z0, z1] at hE0
  clear z0 z1
  obtain ⟨g10, hg2⟩ : ∃ g, g = W.heap.size + 1 + 1 := ⟨_, rfl⟩
  obtain ⟨g2, hg1⟩ : ∃ g, g = W.heap.size + 1 := ⟨_, rfl⟩
  obtain ⟨g1, hg0⟩ : ∃ g, g = W.heap.size := ⟨_, rfl⟩
  rw [← hg2, ← hg1, ← hg0] at hE0
  obtain ⟨W0, hW0, hE⟩ : ∃ W0, ((W.alloc (.cells #[.int .i64 t, .slice A0 l0.length p0, .slice A1 l1.length p1, .bool fl] 24)).alloc (.cells #[.int .i64 x0, .int .i64 x1, .int .i64 x2, .int .i64 x3] 58)).alloc (.cells #[.int .i64 0, .slice none 0 0, .slice none 0 0, .bool false] 24) = W0 ∧ Env w0 _ _ W0 := ⟨_, rfl, hE0⟩
  have HG0 := Aside0.mk hg0
  have HG1 := Aside0.mk hg1
  have HG2 := Aside0.mk hg2
  have HW0 := Aside0.mk hW0
  have HE := Aside0.mk hE
  clear hE hE0 hW0 hg0 hg1 hg2
  clear h
  have hu24 := Tryd.underlying24
  have hu29 := Tryd.underlying29
  have hu56 := Tryd.underlying56
  have hu58 := Tryd.underlying58
  go_enter Tryd.func35, Tryd.ntmps35
  go_upto_region 1 with fail
  rw [← HG2.out, ← HG1.out, ← HG0.out, HW0.out]
  clear HW0 HG0 HG1 HG2
  have xg2_0 : W0.cell? ⟨g2, 0, none⟩ = some (.int .i64 x0) := HE.out.at_ 1 0 rfl rfl
  have xg2_1 : W0.cell? ⟨g2, 1, none⟩ = some (.int .i64 x1) := HE.out.at_ 1 1 rfl rfl
  have xg2_2 : W0.cell? ⟨g2, 2, none⟩ = some (.int .i64 x2) := HE.out.at_ 1 2 rfl rfl
  have xg2_3 : W0.cell? ⟨g2, 3, none⟩ = some (.int .i64 x3) := HE.out.at_ 1 3 rfl rfl
  go_wp2_with fail
  refine (winnowlaw19_picked.calls x1 m r tk tb _ HPK.out).mono ?_
  clear xg2_0 xg2_1 xg2_2 xg2_3
  rintro e w1 ⟨rfl, hB⟩
  have hE := HE.out.below hB
  clear HE hB
  have HE := Aside0.mk hE
  clear hE
  go_upto_region 2 with fail
  have hE := HE.out.push #[.int .i64 tk, .int .i64 tb] 29
  obtain ⟨g12, hg⟩ : ∃ g, g = w1.heap.size := ⟨_, rfl⟩
  rw [← hg] at hE ⊢
  generalize w1.alloc (.cells #[.int .i64 tk, .int .i64 tb] 29) = w2 at hE ⊢
  clear hg HE
  have HE := Aside0.mk hE
  clear hE
  have xg12_0 : w2.cell? ⟨g12, 0, none⟩ = some (.int .i64 tk) := HE.out.at_ 0 0 rfl rfl
  have xg12_1 : w2.cell? ⟨g12, 1, none⟩ = some (.int .i64 tb) := HE.out.at_ 0 1 rfl rfl
  go_wp2_with fail
  refine (winnowlaw19_number.calls tk tb m k _ HNU.out).mono ?_
  clear xg12_0 xg12_1
  rintro e w3 ⟨rfl, hB⟩
  have hE := HE.out.below hB
  clear HE hB
  have HE := Aside0.mk hE
  clear hE
  have xg2_0 : w3.cell? ⟨g2, 0, none⟩ = some (.int .i64 x0) := HE.out.at_ 2 0 rfl rfl
  have xg2_1 : w3.cell? ⟨g2, 1, none⟩ = some (.int .i64 x1) := HE.out.at_ 2 1 rfl rfl
  have xg2_2 : w3.cell? ⟨g2, 2, none⟩ = some (.int .i64 x2) := HE.out.at_ 2 2 rfl rfl
  have xg2_3 : w3.cell? ⟨g2, 3, none⟩ = some (.int .i64 x3) := HE.out.at_ 2 3 rfl rfl
  go_wp2_with fail
  refine (winnowlaw19_few.calls x0 0 3 0 _ HOP.out).mono ?_
  clear xg2_0 xg2_1 xg2_2 xg2_3
  rintro e w4 ⟨rfl, hB⟩
  have hE := HE.out.below hB.below
  clear HE hB
  have HE := Aside0.mk hE
  clear hE
  have xg1_0 : w4.cell? ⟨g1, 0, none⟩ = some (.int .i64 t) := HE.out.at_ 3 0 rfl rfl
  have xg1_1 : w4.cell? ⟨g1, 1, none⟩ = some (.slice A0 l0.length p0) := HE.out.at_ 3 1 rfl rfl
  have xg1_2 : w4.cell? ⟨g1, 2, none⟩ = some (.slice A1 l1.length p1) := HE.out.at_ 3 2 rfl rfl
  have xg1_3 : w4.cell? ⟨g1, 3, none⟩ = some (.bool fl) := HE.out.at_ 3 3 rfl rfl
  have xg12_0 : w4.cell? ⟨g12, 0, none⟩ = some (.int .i64 tk) := HE.out.at_ 0 0 rfl rfl
  have xg12_1 : w4.cell? ⟨g12, 1, none⟩ = some (.int .i64 tb) := HE.out.at_ 0 1 rfl rfl
  go_wp2_with fail
  refine (begin_any t fl _ _ l0 _ _ l1 tk tb r1 r2 r3 r4 r5 r6 r7 _ (HE.out.row_ 0 rfl) (HE.out.cap_ 0 rfl).2 (HE.out.row_ 1 rfl) HL0.out HL1.out (HE.out.tab HT.out) HB.out).mono ?_
  clear xg1_0 xg1_1 xg1_2 xg1_3 xg12_0 xg12_1
  rintro e w5 ⟨v0, v1, rfl, s0, s1, hB⟩
  have hE := HE.out.rows2 hB rfl s0 s1 3 4 (show ([3, 4, 1, 2] : List Nat).Nodup from by decide) (by decide) (by decide)
  obtain ⟨P0, q0_, rfl⟩ := Kd.R_slice s0
  obtain ⟨P1, q1_, rfl⟩ := Kd.R_slice s1
  clear hB s0 s1 HE
  have HE := Aside0.mk hE
  clear hE
  go_upto_region 6 with fail
  have hE := HE.out.push #[.int .i64 r1, .slice P0 r2.length q0_, .slice P1 r3.length q1_, .bool r4] 24
  obtain ⟨g14, hg⟩ : ∃ g, g = w5.heap.size := ⟨_, rfl⟩
  rw [← hg] at hE ⊢
  generalize w5.alloc (.cells #[.int .i64 r1, .slice P0 r2.length q0_, .slice P1 r3.length q1_, .bool r4] 24) = w6 at hE ⊢
  clear hg HE
  have HE := Aside0.mk hE
  clear hE
  have hE := HE.out.lose1.lose1
  clear HE
  have HE := Aside0.mk hE
  clear hE
  have ne_ : (r7 == 0) = false := by simpa using HNE.out
  have ne2_ : (r7 != 0) = true := by simpa using HNE.out
  have xg1_0 : w6.cell? ⟨g1, 0, none⟩ = some (.int .i64 t) := HE.out.at_ 4 0 rfl rfl
  have xg1_1 : w6.cell? ⟨g1, 1, none⟩ = some (.slice A0 l0.length p0) := HE.out.at_ 4 1 rfl rfl
  have xg1_2 : w6.cell? ⟨g1, 2, none⟩ = some (.slice A1 l1.length p1) := HE.out.at_ 4 2 rfl rfl
  have xg1_3 : w6.cell? ⟨g1, 3, none⟩ = some (.bool fl) := HE.out.at_ 4 3 rfl rfl
  have xg10_0 : w6.cell? ⟨g10, 0, none⟩ = some (.int .i64 0) := HE.out.at_ 2 0 rfl rfl
  have xg10_1 : w6.cell? ⟨g10, 1, none⟩ = some (.slice none 0 0) := HE.out.at_ 2 1 rfl rfl
  have xg10_2 : w6.cell? ⟨g10, 2, none⟩ = some (.slice none 0 0) := HE.out.at_ 2 2 rfl rfl
  have xg10_3 : w6.cell? ⟨g10, 3, none⟩ = some (.bool false) := HE.out.at_ 2 3 rfl rfl
  have fg10_0 : w6.frozen? ⟨g10, 0, none⟩ = false := HE.out.fr_ 2 0 rfl
  have fg10_1 : w6.frozen? ⟨g10, 1, none⟩ = false := HE.out.fr_ 2 1 rfl
  have fg10_2 : w6.frozen? ⟨g10, 2, none⟩ = false := HE.out.fr_ 2 2 rfl
  have fg10_3 : w6.frozen? ⟨g10, 3, none⟩ = false := HE.out.fr_ 2 3 rfl
  go_wp2_with fail
  have hE := (HE.out.sub (.cons _ (.cons _ (.cons_cons _ (.cons _ (.cons _ (List.Sublist.refl _)))))) (List.Sublist.refl _)).book4 (.int .i64 t) (.slice A0 l0.length p0) (.slice A1 l1.length p1) (.bool fl)
  clear xg1_0 xg1_1 xg1_2 xg1_3 xg10_0 xg10_1 xg10_2 xg10_3 fg10_0 fg10_1 fg10_2 fg10_3
  clear HE
  refine bodyPost_ret (results_ct rfl _ _ g10 24 #[.int .i64 t, .slice A0 l0.length p0, .slice A1 l1.length p1, .bool fl] (0, 0) _ rfl (hE.blk_ 0 rfl) Tryd.underlying24 rfl (by kernel_rfl)) rfl ?_
  exact ⟨by first | rfl | simp, hE.sub (.cons _ (List.Sublist.refl _)) (List.Sublist.refl _)⟩
set_option maxHeartbeats 8000000 in
set_option maxRecDepth 100000 in
theorem made_done_err {w0 W : World} {B : List Bx} {gN : Nat} {bg ch : Nat → Bool} {s c t : Int} {A0 A1 : Option Addr} {p0 p1 : Nat} {l0 l1 : List S38} {fl : Bool} {x0 x1 x2 x3 : Int} {m r k : Nat} {tk tb : Int} (h : Env w0 (⟨gN, ncells bg ch s c, 56⟩ :: B) (⟨1, k38, 38, .slice A0 l0.length p0, l0⟩ :: ⟨2, k38, 38, .slice A1 l1.length p1, l1⟩ :: []) W) (hT : Tab w0) (hl0 : l0.length ≤ 6000000000000) (hl1 : l1.length ≤ 6000000000000)
    (hpk : winnowlaw19_picked.f x1 m r = some (tk, tb)) (hnu : winnowlaw19_number.f tk tb m = some (k : Int)) {r1 : Int} {r2 r3 : List S38} {r4 : Bool} {r5 : Int} (hop : winnowlaw19_few.f x0 0 3 = some 1) (hb : doneP t l0 l1 fl tk tb = (r1, r2, r3, r4, r5)) (hne : r5 ≠ 0) :
    Calls Tryd.prog 35 #[.pointer (some ⟨gN, 0, none⟩), .agg #[.int .i64 t, .slice A0 l0.length p0, .slice A1 l1.length p1, .bool fl], .agg #[.int .i64 x0, .int .i64 x1, .int .i64 x2, .int .i64 x3], .int .i64 m, .int .i64 r] W fun e W' => e = .returned (.tuple #[.agg #[.int .i64 t, .slice A0 l0.length p0, .slice A1 l1.length p1, .bool fl], .bool true]) ∧ Env w0 (⟨gN, ncells bg ch s c, 56⟩ :: B) (⟨1, k38, 38, .slice A0 l0.length p0, l0⟩ :: ⟨2, k38, 38, .slice A1 l1.length p1, l1⟩ :: []) W' := by
  have HH := Aside0.mk h
  have HPK := Aside0.mk hpk
  have HNU := Aside0.mk hnu
  have HT := Aside0.mk hT
  have HL0 := Aside0.mk hl0
  have HL1 := Aside0.mk hl1
  have HOP := Aside0.mk hop
  have HB := Aside0.mk hb
  have HNE := Aside0.mk hne
  clear hpk hnu hT hl0 hl1 hop hb hne
  have z0 : (W.alloc (.cells #[.int .i64 t, .slice A0 l0.length p0, .slice A1 l1.length p1, .bool fl] 24)).heap.size = W.heap.size + 1 := by simp
  have z1 : ((W.alloc (.cells #[.int .i64 t, .slice A0 l0.length p0, .slice A1 l1.length p1, .bool fl] 24)).alloc (.cells #[.int .i64 x0, .int .i64 x1, .int .i64 x2, .int .i64 x3] 58)).heap.size = W.heap.size + 1 + 1 := by simp
  have hE0 := ((h.push #[.int .i64 t, .slice A0 l0.length p0, .slice A1 l1.length p1, .bool fl] 24).push #[.int .i64 x0, .int .i64 x1, .int .i64 x2, .int .i64 x3] 58).push #[.int .i64 0, .slice none 0 0, .slice none 0 0, .bool false] 24
  rw [z0, z1] at hE0
  clear z0 z1
  obtain ⟨g10, hg2⟩ : ∃ g, g = W.heap.size + 1 + 1 := ⟨_, rfl⟩
  obtain ⟨g2, hg1⟩ : ∃ g, g = W.heap.size + 1 := ⟨_, rfl⟩
  obtain ⟨g1, hg0⟩ : ∃ g, g = W.heap.size := ⟨_, rfl⟩
  rw [← hg2, ← hg1, ← hg0] at hE0
  obtain ⟨W0, hW0, hE⟩ : ∃ W0, ((W.alloc (.cells #[.int .i64 t, .slice A0 l0.length p0, .slice A1 l1.length p1, .bool fl] 24)).alloc (.cells #[.int .i64 x0, .int .i64 x1, .int .i64 x2, .int .i64 x3] 58)).alloc (.cells #[.int .i64 0, .slice none 0 0, .slice none 0 0, .bool false] 24) = W0 ∧ Env w0 _ _ W0 := ⟨_, rfl, hE0⟩
  have HG0 := Aside0.mk hg0
  have HG1 := Aside0.mk hg1
  have HG2 := Aside0.mk hg2
  have HW0 := Aside0.mk hW0
  have HE := Aside0.mk hE
  clear hE hE0 hW0 hg0 hg1 hg2
  clear h
  have hu24 := Tryd.underlying24
  have hu29 := Tryd.underlying29
  have hu56 := Tryd.underlying56
  have hu58 := Tryd.underlying58
  go_enter Tryd.func35, Tryd.ntmps35
  go_upto_region 1 with fail
  rw [← HG2.out, ← HG1.out, ← HG0.out, HW0.out]
  clear HW0 HG0 HG1 HG2
  have xg2_0 : W0.cell? ⟨g2, 0, none⟩ = some (.int .i64 x0) := HE.out.at_ 1 0 rfl rfl
  have xg2_1 : W0.cell? ⟨g2, 1, none⟩ = some (.int .i64 x1) := HE.out.at_ 1 1 rfl rfl
  have xg2_2 : W0.cell? ⟨g2, 2, none⟩ = some (.int .i64 x2) := HE.out.at_ 1 2 rfl rfl
  have xg2_3 : W0.cell? ⟨g2, 3, none⟩ = some (.int .i64 x3) := HE.out.at_ 1 3 rfl rfl
  go_wp2_with fail
  refine (winnowlaw19_picked.calls x1 m r tk tb _ HPK.out).mono ?_
  clear xg2_0 xg2_1 xg2_2 xg2_3
  rintro e w1 ⟨rfl, hB⟩
  have hE := HE.out.below hB
  clear HE hB
  have HE := Aside0.mk hE
  clear hE
  go_upto_region 2 with fail
  have hE := HE.out.push #[.int .i64 tk, .int .i64 tb] 29
  obtain ⟨g12, hg⟩ : ∃ g, g = w1.heap.size := ⟨_, rfl⟩
  rw [← hg] at hE ⊢
  generalize w1.alloc (.cells #[.int .i64 tk, .int .i64 tb] 29) = w2 at hE ⊢
  clear hg HE
  have HE := Aside0.mk hE
  clear hE
  have xg12_0 : w2.cell? ⟨g12, 0, none⟩ = some (.int .i64 tk) := HE.out.at_ 0 0 rfl rfl
  have xg12_1 : w2.cell? ⟨g12, 1, none⟩ = some (.int .i64 tb) := HE.out.at_ 0 1 rfl rfl
  go_wp2_with fail
  refine (winnowlaw19_number.calls tk tb m k _ HNU.out).mono ?_
  clear xg12_0 xg12_1
  rintro e w3 ⟨rfl, hB⟩
  have hE := HE.out.below hB
  clear HE hB
  have HE := Aside0.mk hE
  clear hE
  have xg2_0 : w3.cell? ⟨g2, 0, none⟩ = some (.int .i64 x0) := HE.out.at_ 2 0 rfl rfl
  have xg2_1 : w3.cell? ⟨g2, 1, none⟩ = some (.int .i64 x1) := HE.out.at_ 2 1 rfl rfl
  have xg2_2 : w3.cell? ⟨g2, 2, none⟩ = some (.int .i64 x2) := HE.out.at_ 2 2 rfl rfl
  have xg2_3 : w3.cell? ⟨g2, 3, none⟩ = some (.int .i64 x3) := HE.out.at_ 2 3 rfl rfl
  go_wp2_with fail
  refine (winnowlaw19_few.calls x0 0 3 1 _ HOP.out).mono ?_
  clear xg2_0 xg2_1 xg2_2 xg2_3
  rintro e w4 ⟨rfl, hB⟩
  have hE := HE.out.below hB.below
  clear HE hB
  have HE := Aside0.mk hE
  clear hE
  have xg1_0 : w4.cell? ⟨g1, 0, none⟩ = some (.int .i64 t) := HE.out.at_ 3 0 rfl rfl
  have xg1_1 : w4.cell? ⟨g1, 1, none⟩ = some (.slice A0 l0.length p0) := HE.out.at_ 3 1 rfl rfl
  have xg1_2 : w4.cell? ⟨g1, 2, none⟩ = some (.slice A1 l1.length p1) := HE.out.at_ 3 2 rfl rfl
  have xg1_3 : w4.cell? ⟨g1, 3, none⟩ = some (.bool fl) := HE.out.at_ 3 3 rfl rfl
  have xg12_0 : w4.cell? ⟨g12, 0, none⟩ = some (.int .i64 tk) := HE.out.at_ 0 0 rfl rfl
  have xg12_1 : w4.cell? ⟨g12, 1, none⟩ = some (.int .i64 tb) := HE.out.at_ 0 1 rfl rfl
  go_wp2_with fail
  refine (done_any t fl _ _ l0 _ _ l1 tk tb r1 r2 r3 r4 r5 _ (HE.out.row_ 0 rfl) (HE.out.row_ 1 rfl) HL0.out HL1.out (HE.out.tab HT.out) HB.out).mono ?_
  clear xg1_0 xg1_1 xg1_2 xg1_3 xg12_0 xg12_1
  rintro e w5 ⟨v0, v1, rfl, s0, s1, hB⟩
  have hE := HE.out.rows2 hB rfl s0 s1 3 4 (show ([3, 4, 1, 2] : List Nat).Nodup from by decide) (by decide) (by decide)
  obtain ⟨P0, q0_, rfl⟩ := Kd.R_slice s0
  obtain ⟨P1, q1_, rfl⟩ := Kd.R_slice s1
  clear hB s0 s1 HE
  have HE := Aside0.mk hE
  clear hE
  go_upto_region 11 with fail
  have hE := HE.out.push #[.int .i64 r1, .slice P0 r2.length q0_, .slice P1 r3.length q1_, .bool r4] 24
  obtain ⟨g18, hg⟩ : ∃ g, g = w5.heap.size := ⟨_, rfl⟩
  rw [← hg] at hE ⊢
  generalize w5.alloc (.cells #[.int .i64 r1, .slice P0 r2.length q0_, .slice P1 r3.length q1_, .bool r4] 24) = w6 at hE ⊢
  clear hg HE
  have HE := Aside0.mk hE
  clear hE
  have hE := HE.out.lose1.lose1
  clear HE
  have HE := Aside0.mk hE
  clear hE
  have ne_ : (r5 == 0) = false := by simpa using HNE.out
  have ne2_ : (r5 != 0) = true := by simpa using HNE.out
  have xg1_0 : w6.cell? ⟨g1, 0, none⟩ = some (.int .i64 t) := HE.out.at_ 4 0 rfl rfl
  have xg1_1 : w6.cell? ⟨g1, 1, none⟩ = some (.slice A0 l0.length p0) := HE.out.at_ 4 1 rfl rfl
  have xg1_2 : w6.cell? ⟨g1, 2, none⟩ = some (.slice A1 l1.length p1) := HE.out.at_ 4 2 rfl rfl
  have xg1_3 : w6.cell? ⟨g1, 3, none⟩ = some (.bool fl) := HE.out.at_ 4 3 rfl rfl
  have xg10_0 : w6.cell? ⟨g10, 0, none⟩ = some (.int .i64 0) := HE.out.at_ 2 0 rfl rfl
  have xg10_1 : w6.cell? ⟨g10, 1, none⟩ = some (.slice none 0 0) := HE.out.at_ 2 1 rfl rfl
  have xg10_2 : w6.cell? ⟨g10, 2, none⟩ = some (.slice none 0 0) := HE.out.at_ 2 2 rfl rfl
  have xg10_3 : w6.cell? ⟨g10, 3, none⟩ = some (.bool false) := HE.out.at_ 2 3 rfl rfl
  have fg10_0 : w6.frozen? ⟨g10, 0, none⟩ = false := HE.out.fr_ 2 0 rfl
  have fg10_1 : w6.frozen? ⟨g10, 1, none⟩ = false := HE.out.fr_ 2 1 rfl
  have fg10_2 : w6.frozen? ⟨g10, 2, none⟩ = false := HE.out.fr_ 2 2 rfl
  have fg10_3 : w6.frozen? ⟨g10, 3, none⟩ = false := HE.out.fr_ 2 3 rfl
  go_wp2_with fail
  have hE := (HE.out.sub (.cons _ (.cons _ (.cons_cons _ (.cons _ (.cons _ (List.Sublist.refl _)))))) (List.Sublist.refl _)).book4 (.int .i64 t) (.slice A0 l0.length p0) (.slice A1 l1.length p1) (.bool fl)
  clear xg1_0 xg1_1 xg1_2 xg1_3 xg10_0 xg10_1 xg10_2 xg10_3 fg10_0 fg10_1 fg10_2 fg10_3
  clear HE
  refine bodyPost_ret (results_ct rfl _ _ g10 24 #[.int .i64 t, .slice A0 l0.length p0, .slice A1 l1.length p1, .bool fl] (0, 0) _ rfl (hE.blk_ 0 rfl) Tryd.underlying24 rfl (by kernel_rfl)) rfl ?_
  exact ⟨by first | rfl | simp, hE.sub (.cons _ (List.Sublist.refl _)) (List.Sublist.refl _)⟩
set_option maxHeartbeats 8000000 in
set_option maxRecDepth 100000 in
theorem made_died_err {w0 W : World} {B : List Bx} {gN : Nat} {bg ch : Nat → Bool} {s c t : Int} {A0 A1 : Option Addr} {p0 p1 : Nat} {l0 l1 : List S38} {fl : Bool} {x0 x1 x2 x3 : Int} {m r k : Nat} {tk tb : Int} (h : Env w0 (⟨gN, ncells bg ch s c, 56⟩ :: B) (⟨1, k38, 38, .slice A0 l0.length p0, l0⟩ :: ⟨2, k38, 38, .slice A1 l1.length p1, l1⟩ :: []) W) (hT : Tab w0) (hl0 : l0.length ≤ 6000000000000) (hl1 : l1.length ≤ 6000000000000)
    (hpk : winnowlaw19_picked.f x1 m r = some (tk, tb)) (hnu : winnowlaw19_number.f tk tb m = some (k : Int)) {r1 : Int} {r2 r3 : List S38} {r4 : Bool} {r5 : Int} (hop : winnowlaw19_few.f x0 0 3 = some 2) (hb : diedP t l0 l1 fl tk tb = (r1, r2, r3, r4, r5)) (hne : r5 ≠ 0) :
    Calls Tryd.prog 35 #[.pointer (some ⟨gN, 0, none⟩), .agg #[.int .i64 t, .slice A0 l0.length p0, .slice A1 l1.length p1, .bool fl], .agg #[.int .i64 x0, .int .i64 x1, .int .i64 x2, .int .i64 x3], .int .i64 m, .int .i64 r] W fun e W' => e = .returned (.tuple #[.agg #[.int .i64 t, .slice A0 l0.length p0, .slice A1 l1.length p1, .bool fl], .bool true]) ∧ Env w0 (⟨gN, ncells bg ch s c, 56⟩ :: B) (⟨1, k38, 38, .slice A0 l0.length p0, l0⟩ :: ⟨2, k38, 38, .slice A1 l1.length p1, l1⟩ :: []) W' := by
  have HH := Aside0.mk h
  have HPK := Aside0.mk hpk
  have HNU := Aside0.mk hnu
  have HT := Aside0.mk hT
  have HL0 := Aside0.mk hl0
  have HL1 := Aside0.mk hl1
  have HOP := Aside0.mk hop
  have HB := Aside0.mk hb
  have HNE := Aside0.mk hne
  clear hpk hnu hT hl0 hl1 hop hb hne
  have z0 : (W.alloc (.cells #[.int .i64 t, .slice A0 l0.length p0, .slice A1 l1.length p1, .bool fl] 24)).heap.size = W.heap.size + 1 := by simp
  have z1 : ((W.alloc (.cells #[.int .i64 t, .slice A0 l0.length p0, .slice A1 l1.length p1, .bool fl] 24)).alloc (.cells #[.int .i64 x0, .int .i64 x1, .int .i64 x2, .int .i64 x3] 58)).heap.size = W.heap.size + 1 + 1 := by simp
  have hE0 := ((h.push #[.int .i64 t, .slice A0 l0.length p0, .slice A1 l1.length p1, .bool fl] 24).push #[.int .i64 x0, .int .i64 x1, .int .i64 x2, .int .i64 x3] 58).push #[.int .i64 0, .slice none 0 0, .slice none 0 0, .bool false] 24
  rw [z0, z1] at hE0
  clear z0 z1
  obtain ⟨g10, hg2⟩ : ∃ g, g = W.heap.size + 1 + 1 := ⟨_, rfl⟩
  obtain ⟨g2, hg1⟩ : ∃ g, g = W.heap.size + 1 := ⟨_, rfl⟩
  obtain ⟨g1, hg0⟩ : ∃ g, g = W.heap.size := ⟨_, rfl⟩
  rw [← hg2, ← hg1, ← hg0] at hE0
  obtain ⟨W0, hW0, hE⟩ : ∃ W0, ((W.alloc (.cells #[.int .i64 t, .slice A0 l0.length p0, .slice A1 l1.length p1, .bool fl] 24)).alloc (.cells #[.int .i64 x0, .int .i64 x1, .int .i64 x2, .int .i64 x3] 58)).alloc (.cells #[.int .i64 0, .slice none 0 0, .slice none 0 0, .bool false] 24) = W0 ∧ Env w0 _ _ W0 := ⟨_, rfl, hE0⟩
  have HG0 := Aside0.mk hg0
  have HG1 := Aside0.mk hg1
  have HG2 := Aside0.mk hg2
  have HW0 := Aside0.mk hW0
  have HE := Aside0.mk hE
  clear hE hE0 hW0 hg0 hg1 hg2
  clear h
  have hu24 := Tryd.underlying24
  have hu29 := Tryd.underlying29
  have hu56 := Tryd.underlying56
  have hu58 := Tryd.underlying58
  go_enter Tryd.func35, Tryd.ntmps35
  go_upto_region 1 with fail
  rw [← HG2.out, ← HG1.out, ← HG0.out, HW0.out]
  clear HW0 HG0 HG1 HG2
  have xg2_0 : W0.cell? ⟨g2, 0, none⟩ = some (.int .i64 x0) := HE.out.at_ 1 0 rfl rfl
  have xg2_1 : W0.cell? ⟨g2, 1, none⟩ = some (.int .i64 x1) := HE.out.at_ 1 1 rfl rfl
  have xg2_2 : W0.cell? ⟨g2, 2, none⟩ = some (.int .i64 x2) := HE.out.at_ 1 2 rfl rfl
  have xg2_3 : W0.cell? ⟨g2, 3, none⟩ = some (.int .i64 x3) := HE.out.at_ 1 3 rfl rfl
  go_wp2_with fail
  refine (winnowlaw19_picked.calls x1 m r tk tb _ HPK.out).mono ?_
  clear xg2_0 xg2_1 xg2_2 xg2_3
  rintro e w1 ⟨rfl, hB⟩
  have hE := HE.out.below hB
  clear HE hB
  have HE := Aside0.mk hE
  clear hE
  go_upto_region 2 with fail
  have hE := HE.out.push #[.int .i64 tk, .int .i64 tb] 29
  obtain ⟨g12, hg⟩ : ∃ g, g = w1.heap.size := ⟨_, rfl⟩
  rw [← hg] at hE ⊢
  generalize w1.alloc (.cells #[.int .i64 tk, .int .i64 tb] 29) = w2 at hE ⊢
  clear hg HE
  have HE := Aside0.mk hE
  clear hE
  have xg12_0 : w2.cell? ⟨g12, 0, none⟩ = some (.int .i64 tk) := HE.out.at_ 0 0 rfl rfl
  have xg12_1 : w2.cell? ⟨g12, 1, none⟩ = some (.int .i64 tb) := HE.out.at_ 0 1 rfl rfl
  go_wp2_with fail
  refine (winnowlaw19_number.calls tk tb m k _ HNU.out).mono ?_
  clear xg12_0 xg12_1
  rintro e w3 ⟨rfl, hB⟩
  have hE := HE.out.below hB
  clear HE hB
  have HE := Aside0.mk hE
  clear hE
  have xg2_0 : w3.cell? ⟨g2, 0, none⟩ = some (.int .i64 x0) := HE.out.at_ 2 0 rfl rfl
  have xg2_1 : w3.cell? ⟨g2, 1, none⟩ = some (.int .i64 x1) := HE.out.at_ 2 1 rfl rfl
  have xg2_2 : w3.cell? ⟨g2, 2, none⟩ = some (.int .i64 x2) := HE.out.at_ 2 2 rfl rfl
  have xg2_3 : w3.cell? ⟨g2, 3, none⟩ = some (.int .i64 x3) := HE.out.at_ 2 3 rfl rfl
  go_wp2_with fail
  refine (winnowlaw19_few.calls x0 0 3 2 _ HOP.out).mono ?_
  clear xg2_0 xg2_1 xg2_2 xg2_3
  rintro e w4 ⟨rfl, hB⟩
  have hE := HE.out.below hB.below
  clear HE hB
  have HE := Aside0.mk hE
  clear hE
  have xg1_0 : w4.cell? ⟨g1, 0, none⟩ = some (.int .i64 t) := HE.out.at_ 3 0 rfl rfl
  have xg1_1 : w4.cell? ⟨g1, 1, none⟩ = some (.slice A0 l0.length p0) := HE.out.at_ 3 1 rfl rfl
  have xg1_2 : w4.cell? ⟨g1, 2, none⟩ = some (.slice A1 l1.length p1) := HE.out.at_ 3 2 rfl rfl
  have xg1_3 : w4.cell? ⟨g1, 3, none⟩ = some (.bool fl) := HE.out.at_ 3 3 rfl rfl
  have xg12_0 : w4.cell? ⟨g12, 0, none⟩ = some (.int .i64 tk) := HE.out.at_ 0 0 rfl rfl
  have xg12_1 : w4.cell? ⟨g12, 1, none⟩ = some (.int .i64 tb) := HE.out.at_ 0 1 rfl rfl
  go_wp2_with fail
  refine (died_any t fl _ _ l0 _ _ l1 tk tb r1 r2 r3 r4 r5 _ (HE.out.row_ 0 rfl) (HE.out.row_ 1 rfl) HL0.out HL1.out (HE.out.tab HT.out) HB.out).mono ?_
  clear xg1_0 xg1_1 xg1_2 xg1_3 xg12_0 xg12_1
  rintro e w5 ⟨v0, v1, rfl, s0, s1, hB⟩
  have hE := HE.out.rows2 hB rfl s0 s1 3 4 (show ([3, 4, 1, 2] : List Nat).Nodup from by decide) (by decide) (by decide)
  obtain ⟨P0, q0_, rfl⟩ := Kd.R_slice s0
  obtain ⟨P1, q1_, rfl⟩ := Kd.R_slice s1
  clear hB s0 s1 HE
  have HE := Aside0.mk hE
  clear hE
  go_upto_region 16 with fail
  have hE := HE.out.push #[.int .i64 r1, .slice P0 r2.length q0_, .slice P1 r3.length q1_, .bool r4] 24
  obtain ⟨g20, hg⟩ : ∃ g, g = w5.heap.size := ⟨_, rfl⟩
  rw [← hg] at hE ⊢
  generalize w5.alloc (.cells #[.int .i64 r1, .slice P0 r2.length q0_, .slice P1 r3.length q1_, .bool r4] 24) = w6 at hE ⊢
  clear hg HE
  have HE := Aside0.mk hE
  clear hE
  have hE := HE.out.lose1.lose1
  clear HE
  have HE := Aside0.mk hE
  clear hE
  have ne_ : (r5 == 0) = false := by simpa using HNE.out
  have ne2_ : (r5 != 0) = true := by simpa using HNE.out
  have xg1_0 : w6.cell? ⟨g1, 0, none⟩ = some (.int .i64 t) := HE.out.at_ 4 0 rfl rfl
  have xg1_1 : w6.cell? ⟨g1, 1, none⟩ = some (.slice A0 l0.length p0) := HE.out.at_ 4 1 rfl rfl
  have xg1_2 : w6.cell? ⟨g1, 2, none⟩ = some (.slice A1 l1.length p1) := HE.out.at_ 4 2 rfl rfl
  have xg1_3 : w6.cell? ⟨g1, 3, none⟩ = some (.bool fl) := HE.out.at_ 4 3 rfl rfl
  have xg10_0 : w6.cell? ⟨g10, 0, none⟩ = some (.int .i64 0) := HE.out.at_ 2 0 rfl rfl
  have xg10_1 : w6.cell? ⟨g10, 1, none⟩ = some (.slice none 0 0) := HE.out.at_ 2 1 rfl rfl
  have xg10_2 : w6.cell? ⟨g10, 2, none⟩ = some (.slice none 0 0) := HE.out.at_ 2 2 rfl rfl
  have xg10_3 : w6.cell? ⟨g10, 3, none⟩ = some (.bool false) := HE.out.at_ 2 3 rfl rfl
  have fg10_0 : w6.frozen? ⟨g10, 0, none⟩ = false := HE.out.fr_ 2 0 rfl
  have fg10_1 : w6.frozen? ⟨g10, 1, none⟩ = false := HE.out.fr_ 2 1 rfl
  have fg10_2 : w6.frozen? ⟨g10, 2, none⟩ = false := HE.out.fr_ 2 2 rfl
  have fg10_3 : w6.frozen? ⟨g10, 3, none⟩ = false := HE.out.fr_ 2 3 rfl
  go_wp2_with fail
  have hE := (HE.out.sub (.cons _ (.cons _ (.cons_cons _ (.cons _ (.cons _ (List.Sublist.refl _)))))) (List.Sublist.refl _)).book4 (.int .i64 t) (.slice A0 l0.length p0) (.slice A1 l1.length p1) (.bool fl)
  clear xg1_0 xg1_1 xg1_2 xg1_3 xg10_0 xg10_1 xg10_2 xg10_3 fg10_0 fg10_1 fg10_2 fg10_3
  clear HE
  refine bodyPost_ret (results_ct rfl _ _ g10 24 #[.int .i64 t, .slice A0 l0.length p0, .slice A1 l1.length p1, .bool fl] (0, 0) _ rfl (hE.blk_ 0 rfl) Tryd.underlying24 rfl (by kernel_rfl)) rfl ?_
  exact ⟨by first | rfl | simp, hE.sub (.cons _ (List.Sublist.refl _)) (List.Sublist.refl _)⟩
set_option maxHeartbeats 8000000 in
set_option maxRecDepth 100000 in
theorem made_blame_none {w0 W : World} {B : List Bx} {gN : Nat} {bg ch : Nat → Bool} {s c t : Int} {A0 A1 : Option Addr} {p0 p1 : Nat} {l0 l1 : List S38} {fl : Bool} {x0 x1 x2 x3 : Int} {m r k : Nat} {tk tb : Int} (h : Env w0 (⟨gN, ncells bg ch s c, 56⟩ :: B) (⟨1, k38, 38, .slice A0 l0.length p0, l0⟩ :: ⟨2, k38, 38, .slice A1 l1.length p1, l1⟩ :: []) W) (hT : Tab w0) (hl0 : l0.length ≤ 6000000000000) (hl1 : l1.length ≤ 6000000000000)
    (hpk : winnowlaw19_picked.f x1 m r = some (tk, tb)) (hnu : winnowlaw19_number.f tk tb m = some (k : Int)) (hop : winnowlaw19_few.f x0 0 3 = some 3) (hm : ((m : Int) == 0) = true) :
    Calls Tryd.prog 35 #[.pointer (some ⟨gN, 0, none⟩), .agg #[.int .i64 t, .slice A0 l0.length p0, .slice A1 l1.length p1, .bool fl], .agg #[.int .i64 x0, .int .i64 x1, .int .i64 x2, .int .i64 x3], .int .i64 m, .int .i64 r] W fun e W' => e = .returned (.tuple #[.agg #[.int .i64 t, .slice A0 l0.length p0, .slice A1 l1.length p1, .bool fl], .bool true]) ∧ Env w0 (⟨gN, ncells bg ch s c, 56⟩ :: B) (⟨1, k38, 38, .slice A0 l0.length p0, l0⟩ :: ⟨2, k38, 38, .slice A1 l1.length p1, l1⟩ :: []) W' := by
  have HH := Aside0.mk h
  have HPK := Aside0.mk hpk
  have HNU := Aside0.mk hnu
  have HT := Aside0.mk hT
  have HL0 := Aside0.mk hl0
  have HL1 := Aside0.mk hl1
  have HOP := Aside0.mk hop
  have HM := Aside0.mk hm
  clear hpk hnu hT hl0 hl1 hop hm
  have z0 : (W.alloc (.cells #[.int .i64 t, .slice A0 l0.length p0, .slice A1 l1.length p1, .bool fl] 24)).heap.size = W.heap.size + 1 := by simp
  have z1 : ((W.alloc (.cells #[.int .i64 t, .slice A0 l0.length p0, .slice A1 l1.length p1, .bool fl] 24)).alloc (.cells #[.int .i64 x0, .int .i64 x1, .int .i64 x2, .int .i64 x3] 58)).heap.size = W.heap.size + 1 + 1 := by simp
  have hE0 := ((h.push #[.int .i64 t, .slice A0 l0.length p0, .slice A1 l1.length p1, .bool fl] 24).push #[.int .i64 x0, .int .i64 x1, .int .i64 x2, .int .i64 x3] 58).push #[.int .i64 0, .slice none 0 0, .slice none 0 0, .bool false] 24
  rw [z0, z1] at hE0
  clear z0 z1
  obtain ⟨g10, hg2⟩ : ∃ g, g = W.heap.size + 1 + 1 := ⟨_, rfl⟩
  obtain ⟨g2, hg1⟩ : ∃ g, g = W.heap.size + 1 := ⟨_, rfl⟩
  obtain ⟨g1, hg0⟩ : ∃ g, g = W.heap.size := ⟨_, rfl⟩
  rw [← hg2, ← hg1, ← hg0] at hE0
  obtain ⟨W0, hW0, hE⟩ : ∃ W0, ((W.alloc (.cells #[.int .i64 t, .slice A0 l0.length p0, .slice A1 l1.length p1, .bool fl] 24)).alloc (.cells #[.int .i64 x0, .int .i64 x1, .int .i64 x2, .int .i64 x3] 58)).alloc (.cells #[.int .i64 0, .slice none 0 0, .slice none 0 0, .bool false] 24) = W0 ∧ Env w0 _ _ W0 := ⟨_, rfl, hE0⟩
  have HG0 := Aside0.mk hg0
  have HG1 := Aside0.mk hg1
  have HG2 := Aside0.mk hg2
  have HW0 := Aside0.mk hW0
  have HE := Aside0.mk hE
  clear hE hE0 hW0 hg0 hg1 hg2
  clear h
  have hu24 := Tryd.underlying24
  have hu29 := Tryd.underlying29
  have hu56 := Tryd.underlying56
  have hu58 := Tryd.underlying58
  go_enter Tryd.func35, Tryd.ntmps35
  go_upto_region 1 with fail
  rw [← HG2.out, ← HG1.out, ← HG0.out, HW0.out]
  clear HW0 HG0 HG1 HG2
  have xg2_0 : W0.cell? ⟨g2, 0, none⟩ = some (.int .i64 x0) := HE.out.at_ 1 0 rfl rfl
  have xg2_1 : W0.cell? ⟨g2, 1, none⟩ = some (.int .i64 x1) := HE.out.at_ 1 1 rfl rfl
  have xg2_2 : W0.cell? ⟨g2, 2, none⟩ = some (.int .i64 x2) := HE.out.at_ 1 2 rfl rfl
  have xg2_3 : W0.cell? ⟨g2, 3, none⟩ = some (.int .i64 x3) := HE.out.at_ 1 3 rfl rfl
  go_wp2_with fail
  refine (winnowlaw19_picked.calls x1 m r tk tb _ HPK.out).mono ?_
  clear xg2_0 xg2_1 xg2_2 xg2_3
  rintro e w1 ⟨rfl, hB⟩
  have hE := HE.out.below hB
  clear HE hB
  have HE := Aside0.mk hE
  clear hE
  go_upto_region 2 with fail
  have hE := HE.out.push #[.int .i64 tk, .int .i64 tb] 29
  obtain ⟨g12, hg⟩ : ∃ g, g = w1.heap.size := ⟨_, rfl⟩
  rw [← hg] at hE ⊢
  generalize w1.alloc (.cells #[.int .i64 tk, .int .i64 tb] 29) = w2 at hE ⊢
  clear hg HE
  have HE := Aside0.mk hE
  clear hE
  have xg12_0 : w2.cell? ⟨g12, 0, none⟩ = some (.int .i64 tk) := HE.out.at_ 0 0 rfl rfl
  have xg12_1 : w2.cell? ⟨g12, 1, none⟩ = some (.int .i64 tb) := HE.out.at_ 0 1 rfl rfl
  go_wp2_with fail
  refine (winnowlaw19_number.calls tk tb m k _ HNU.out).mono ?_
  clear xg12_0 xg12_1
  rintro e w3 ⟨rfl, hB⟩
  have hE := HE.out.below hB
  clear HE hB
  have HE := Aside0.mk hE
  clear hE
  have xg2_0 : w3.cell? ⟨g2, 0, none⟩ = some (.int .i64 x0) := HE.out.at_ 2 0 rfl rfl
  have xg2_1 : w3.cell? ⟨g2, 1, none⟩ = some (.int .i64 x1) := HE.out.at_ 2 1 rfl rfl
  have xg2_2 : w3.cell? ⟨g2, 2, none⟩ = some (.int .i64 x2) := HE.out.at_ 2 2 rfl rfl
  have xg2_3 : w3.cell? ⟨g2, 3, none⟩ = some (.int .i64 x3) := HE.out.at_ 2 3 rfl rfl
  go_wp2_with fail
  refine (winnowlaw19_few.calls x0 0 3 3 _ HOP.out).mono ?_
  clear xg2_0 xg2_1 xg2_2 xg2_3
  rintro e w4 ⟨rfl, hB⟩
  have hE := HE.out.below hB.below
  clear HE hB
  have HE := Aside0.mk hE
  clear hE
  have hm_ := HM.out
  have xg1_0 : w4.cell? ⟨g1, 0, none⟩ = some (.int .i64 t) := HE.out.at_ 3 0 rfl rfl
  have xg1_1 : w4.cell? ⟨g1, 1, none⟩ = some (.slice A0 l0.length p0) := HE.out.at_ 3 1 rfl rfl
  have xg1_2 : w4.cell? ⟨g1, 2, none⟩ = some (.slice A1 l1.length p1) := HE.out.at_ 3 2 rfl rfl
  have xg1_3 : w4.cell? ⟨g1, 3, none⟩ = some (.bool fl) := HE.out.at_ 3 3 rfl rfl
  have xg10_0 : w4.cell? ⟨g10, 0, none⟩ = some (.int .i64 0) := HE.out.at_ 1 0 rfl rfl
  have xg10_1 : w4.cell? ⟨g10, 1, none⟩ = some (.slice none 0 0) := HE.out.at_ 1 1 rfl rfl
  have xg10_2 : w4.cell? ⟨g10, 2, none⟩ = some (.slice none 0 0) := HE.out.at_ 1 2 rfl rfl
  have xg10_3 : w4.cell? ⟨g10, 3, none⟩ = some (.bool false) := HE.out.at_ 1 3 rfl rfl
  have fg10_0 : w4.frozen? ⟨g10, 0, none⟩ = false := HE.out.fr_ 1 0 rfl
  have fg10_1 : w4.frozen? ⟨g10, 1, none⟩ = false := HE.out.fr_ 1 1 rfl
  have fg10_2 : w4.frozen? ⟨g10, 2, none⟩ = false := HE.out.fr_ 1 2 rfl
  have fg10_3 : w4.frozen? ⟨g10, 3, none⟩ = false := HE.out.fr_ 1 3 rfl
  go_wp2_with fail
  have hE := (HE.out.sub (.cons _ (.cons_cons _ (.cons _ (.cons _ (List.Sublist.refl _))))) (List.Sublist.refl _)).book4 (.int .i64 t) (.slice A0 l0.length p0) (.slice A1 l1.length p1) (.bool fl)
  clear xg1_0 xg1_1 xg1_2 xg1_3 xg10_0 xg10_1 xg10_2 xg10_3 fg10_0 fg10_1 fg10_2 fg10_3
  clear HE
  refine bodyPost_ret (results_ct rfl _ _ g10 24 #[.int .i64 t, .slice A0 l0.length p0, .slice A1 l1.length p1, .bool fl] (0, 0) _ rfl (hE.blk_ 0 rfl) Tryd.underlying24 rfl (by kernel_rfl)) rfl ?_
  exact ⟨by first | rfl | simp, hE.sub (.cons _ (List.Sublist.refl _)) (List.Sublist.refl _)⟩
end Go.Proofs.YtponmfnegdlppaaDoor.P

end
