/- Several texts laid together (wip/tools/merge2.py): HBegin. -/
import Derived.Test.YtponmfnegdlppaaDoorMP5
import Derived.Test.YtponmfnegdlppaaDoorMP7
import Derived.Deep.RegionHeld3
section
/- ledger.Begin, by hand (printed by HBegin.gen.py). -/
namespace Go.Proofs.YtponmfnegdlppaaDoor.P
open Go.RowKit Go.Proofs.YtponmfnegdlppaaDoorW.PrintWords Go.Proofs.YtponmfnegdlppaaDoorW.PrintLast Go.Proofs.YtponmfnegdlppaaDoorW.PrintMore
set_option linter.unusedVariables false
set_option linter.unusedSimpArgs false

theorem far4 {W : World} {g : Nat} {a b c d : Value} {k o : Nat} {v : Value} (h : W.cell? ⟨k, o, none⟩ = some v) (hk : k ≠ g) :
    ((((W.setCell ⟨g, 0, none⟩ a).setCell ⟨g, 1, none⟩ b).setCell ⟨g, 2, none⟩ c).setCell ⟨g, 3, none⟩ d).cell? ⟨k, o, none⟩ = some v := by
  rw [World.cell?_setCell_far _ _ _ _ (Ne.symm hk), World.cell?_setCell_far _ _ _ _ (Ne.symm hk), World.cell?_setCell_far _ _ _ _ (Ne.symm hk), World.cell?_setCell_far _ _ _ _ (Ne.symm hk)]
  exact h

set_option maxHeartbeats 4000000 in
set_option maxRecDepth 100000 in
theorem begin_bad (t : Int) (fl : Bool) (A0 : Option Addr) (c0 : Nat) (l0 : List S38) (A1 : Option Addr) (c1 : Nat) (l1 : List S38) (k b : Int) (w : World)
    (h0 : Kd.C k38 w A0 l0.length l0) (hcap0 : l0.length ≤ c0) (h1 : Kd.C k38 w A1 l1.length l1) (hl0 : l0.length ≤ 6000000000000) (hl1 : l1.length ≤ 6000000000000) (hT : Tab w) (e : Int) (he : knownP t l0 l1 fl [⟨k, b⟩] = e) (hne : e ≠ 0) :
    Calls Tryd.prog 28 #[.agg #[.int .i64 t, .slice A0 l0.length c0, .slice A1 l1.length c1, .bool fl], .agg #[.int .i64 k, .int .i64 b]] w fun e_ w' => e_ = .returned (.tuple #[.agg #[.int .i64 0, .slice none 0 0, .slice none 0 0, .bool false], .int .i64 0, .bool false, .int .i64 e]) ∧ Below w.heap.size w w' := by
  have hl3 := lays3_of w t (.slice A0 l0.length c0) (.slice A1 l1.length c1) fl k b
  have hba : Below w.heap.size w ((w3of w t (.slice A0 l0.length c0) (.slice A1 l1.length c1) fl k b).alloc (.cells #[.int .i64 k, .int .i64 b] 29)) := below_alloc hl3.q0 _
  have hkn := known_any t fl A0 c0 l0 A1 c1 l1 (some ⟨(w3of w t (.slice A0 l0.length c0) (.slice A1 l1.length c1) fl k b).heap.size, 0, none⟩) 1 [⟨k, b⟩] ((w3of w t (.slice A0 l0.length c0) (.slice A1 l1.length c1) fl k b).alloc (.cells #[.int .i64 k, .int .i64 b] 29)) (Kd.C_below h0 hba) (Kd.C_below h1 hba) (C_one (w3of w t (.slice A0 l0.length c0) (.slice A1 l1.length c1) fl k b) k b) (by simp) hl0 hl1 (hT.below hba)
  rw [he] at hkn
  have H0 := Aside0.mk h0
  have H1 := Aside0.mk h1
  have HCP := Aside0.mk hcap0
  obtain ⟨W3, hW3⟩ : ∃ W3, (w3of w t (.slice A0 l0.length c0) (.slice A1 l1.length c1) fl k b) = W3 := ⟨_, rfl⟩
  rw [hW3] at hl3 hba hkn
  unfold w3of at hW3
  have HW3 := Aside0.mk hW3
  have HL := Aside0.mk hl3
  have HKN := Aside0.mk hkn
  have ha := below_alloc (Below.refl W3.heap.size W3) (.cells #[.int .i64 k, .int .i64 b] 29)
  have HBA := Aside0.mk ha
  clear hba hkn h0 h1 he hl3 hT hl0 hl1 ha hW3 hcap0
  have hu22 := Tryd.underlying22
  have hu29 := Tryd.underlying29
  have hu24 := Tryd.underlying24
  have hu38 := Tryd.underlying38
  have hu26 := Tryd.underlying26
  have hu85 := Tryd.underlying85
  have hz0 := HL.out.q2.c0
  have hz1 := HL.out.q2.c1
  have hz2 := HL.out.q2.c2
  have hz3 := HL.out.q2.c3
  have hy0 : W3.cell? ⟨w.heap.size + 1, 0, none⟩ = some (.int .i64 k) := (blk_cell HL.out.q3 0).trans rfl
  have hy1 : W3.cell? ⟨w.heap.size + 1, 1, none⟩ = some (.int .i64 b) := (blk_cell HL.out.q3 1).trans rfl
  have hn1 : (e != 0) = true := bne_iff_ne.2 hne
  clear hne
  go_enter Tryd.func28, Tryd.ntmps28
  go_upto_region 1 with (fail)
  rw [HW3.out]
  clear HW3
  go_wp2_with (go_at_call 54; go_must (refine HKN.out.mono ?_; rintro e_ W4 ⟨rfl, hB4⟩; have HF := Aside0.mk (HL.out.below (below_step HBA.out hB4)); clear hB4 HL HKN HBA hz0 hz1 hz2 hz3 hy0 hy1; have hc0 : W4.cell? ⟨w.heap.size + 1 + 1, 0, none⟩ = some (.int .i64 0) := (blk_cell HF.out.2.2.1 0).trans rfl; have hc1 : W4.cell? ⟨w.heap.size + 1 + 1, 1, none⟩ = some (.slice none 0 0) := (blk_cell HF.out.2.2.1 1).trans rfl; have hc2 : W4.cell? ⟨w.heap.size + 1 + 1, 2, none⟩ = some (.slice none 0 0) := (blk_cell HF.out.2.2.1 2).trans rfl; have hc3 : W4.cell? ⟨w.heap.size + 1 + 1, 3, none⟩ = some (.bool false) := (blk_cell HF.out.2.2.1 3).trans rfl; have hf0 : W4.frozen? ⟨w.heap.size + 1 + 1, 0, none⟩ = false := frozen_of_row _ _ _ _ _ HF.out.2.2.1; have hf1 : W4.frozen? ⟨w.heap.size + 1 + 1, 1, none⟩ = false := frozen_of_row _ _ _ _ _ HF.out.2.2.1; have hf2 : W4.frozen? ⟨w.heap.size + 1 + 1, 2, none⟩ = false := frozen_of_row _ _ _ _ _ HF.out.2.2.1; have hf3 : W4.frozen? ⟨w.heap.size + 1 + 1, 3, none⟩ = false := frozen_of_row _ _ _ _ _ HF.out.2.2.1))
  refine bodyPost_ret (results_list (rs := [.cell 4 24, .tmp 5, .tmp 6, .tmp 7]) rfl (by simp) (.cell (w.heap.size + 1 + 1) 24 #[.int .i64 0, .slice none 0 0, .slice none 0 0, .bool false] (0, 0) _ rfl (by refine blk_put (cs := #[.int .i64 0, .slice none 0 0, .slice none 0 0, .bool false]) ?_ 3 _ rfl; refine blk_put (cs := #[.int .i64 0, .slice none 0 0, .slice none 0 0, .bool false]) ?_ 2 _ rfl; refine blk_put (cs := #[.int .i64 0, .slice none 0 0, .slice none 0 0, .bool false]) ?_ 1 _ rfl; refine blk_put (cs := #[.int .i64 0, .slice none 0 0, .slice none 0 0, .bool false]) ?_ 0 _ rfl; exact HF.out.2.2.1) Tryd.underlying24 rfl (by kernel_rfl) (.tmp (.tmp (.tmp .nil))))) rfl ?_
  exact ⟨rfl, (((HF.out.2.2.2.1.setCell (by simp; omega) _).setCell (by simp; omega) _).setCell (by simp; omega) _).setCell (by simp; omega) _⟩

set_option maxHeartbeats 4000000 in
set_option maxRecDepth 100000 in
theorem begin_failed_map (t : Int) (A0 : Option Addr) (c0 : Nat) (l0 : List S38) (A1 : Option Addr) (c1 : Nat) (l1 : List S38) (b : Nat) (w : World)
    (h0 : Kd.C k38 w A0 l0.length l0) (hcap0 : l0.length ≤ c0) (h1 : Kd.C k38 w A1 l1.length l1) (hl0 : l0.length ≤ 6000000000000) (hl1 : l1.length ≤ 6000000000000) (hT : Tab w) (he : knownP t l0 l1 true [⟨0, b⟩] = 0) (hb : b < l0.length) :
    Calls Tryd.prog 28 #[.agg #[.int .i64 t, .slice A0 l0.length c0, .slice A1 l1.length c1, .bool true], .agg #[.int .i64 0, .int .i64 b]] w fun e_ w' => e_ = .returned (.tuple #[.agg #[.int .i64 0, .slice none 0 0, .slice none 0 0, .bool false], .int .i64 0, .bool false, .int .i64 192]) ∧ Below w.heap.size w w' := by
  have hl3 := lays3_of w t (.slice A0 l0.length c0) (.slice A1 l1.length c1) true 0 b
  have hba : Below w.heap.size w ((w3of w t (.slice A0 l0.length c0) (.slice A1 l1.length c1) true 0 b).alloc (.cells #[.int .i64 0, .int .i64 b] 29)) := below_alloc hl3.q0 _
  have hkn := known_any t true A0 c0 l0 A1 c1 l1 (some ⟨(w3of w t (.slice A0 l0.length c0) (.slice A1 l1.length c1) true 0 b).heap.size, 0, none⟩) 1 [⟨0, b⟩] ((w3of w t (.slice A0 l0.length c0) (.slice A1 l1.length c1) true 0 b).alloc (.cells #[.int .i64 0, .int .i64 b] 29)) (Kd.C_below h0 hba) (Kd.C_below h1 hba) (C_one (w3of w t (.slice A0 l0.length c0) (.slice A1 l1.length c1) true 0 b) 0 b) (by simp) hl0 hl1 (hT.below hba)
  rw [he] at hkn
  have H0 := Aside0.mk h0
  have H1 := Aside0.mk h1
  have HCP := Aside0.mk hcap0
  obtain ⟨W3, hW3⟩ : ∃ W3, (w3of w t (.slice A0 l0.length c0) (.slice A1 l1.length c1) true 0 b) = W3 := ⟨_, rfl⟩
  rw [hW3] at hl3 hba hkn
  unfold w3of at hW3
  have HW3 := Aside0.mk hW3
  have HL := Aside0.mk hl3
  have HKN := Aside0.mk hkn
  have ha := below_alloc (Below.refl W3.heap.size W3) (.cells #[.int .i64 0, .int .i64 b] 29)
  have HBA := Aside0.mk ha
  clear hba hkn h0 h1 he hl3 hT hl0 hl1 ha hW3 hcap0
  have hu22 := Tryd.underlying22
  have hu29 := Tryd.underlying29
  have hu24 := Tryd.underlying24
  have hu38 := Tryd.underlying38
  have hu26 := Tryd.underlying26
  have hu85 := Tryd.underlying85
  have hz0 := HL.out.q2.c0
  have hz1 := HL.out.q2.c1
  have hz2 := HL.out.q2.c2
  have hz3 := HL.out.q2.c3
  have hy0 : W3.cell? ⟨w.heap.size + 1, 0, none⟩ = some (.int .i64 0) := (blk_cell HL.out.q3 0).trans rfl
  have hy1 : W3.cell? ⟨w.heap.size + 1, 1, none⟩ = some (.int .i64 b) := (blk_cell HL.out.q3 1).trans rfl
  obtain ⟨ad, ea, hx0, hx1, hx2⟩ := at_T38 H0.out (b : Int) (by omega) (by omega)
  subst ea
  rw [Int.toNat_natCast] at hx0 hx1 hx2
  obtain ⟨⟨sa, s1, s2⟩, hs⟩ : ∃ s, rd_T38 l0 (b : Int) = s := ⟨_, rfl⟩
  rw [hs] at hx0 hx1 hx2
  dsimp only at *
  have HX := Aside0.mk (And.intro hx0 (And.intro hx1 hx2))
  have HS := Aside0.mk hs
  have HBI := Aside0.mk hb
  clear hx0 hx1 hx2 hs hb
  go_enter Tryd.func28, Tryd.ntmps28
  go_upto_region 1 with (fail)
  rw [HW3.out]
  clear HW3
  go_upto_region 6 with (first | (go_at_call 54; go_must (refine HKN.out.mono ?_; rintro e_ W4 ⟨rfl, hB4⟩; have HF := Aside0.mk (HL.out.below (below_step HBA.out hB4)); clear hB4 HL HKN HBA hz0 hz1 hz2 hz3 hy0 hy1; have hv0 : W4.cell? ⟨w.heap.size + 1, 0, none⟩ = some (.int .i64 0) := (blk_cell HF.out.2.1 0).trans rfl; have hv1 : W4.cell? ⟨w.heap.size + 1, 1, none⟩ = some (.int .i64 b) := (blk_cell HF.out.2.1 1).trans rfl)) | (go_at_call 55; go_must (refine (state_map W4 w.heap.size t ad _ _ _ true b HF.out.1 (by omega) (by have := HBI.out; omega)).mono ?_; rintro e_ W5 ⟨rfl, hB5⟩; have HG := Aside0.mk (show bookAt W5 w.heap.size t _ _ true ∧ W5.heap[w.heap.size + 1]? = some (.cells #[.int .i64 0, .int .i64 b] 29 (0, 0)) ∧ W5.heap[w.heap.size + 1 + 1]? = some (.cells #[.int .i64 0, .slice none 0 0, .slice none 0 0, .bool false] 24 (0, 0)) ∧ Below w.heap.size w W5 ∧ w.heap.size + 3 ≤ W5.heap.size from ⟨HF.out.1.below hB5 HF.out.1.lt, (hB5.block _ (by have := HF.out.2.2.2.2; omega)).trans HF.out.2.1, (hB5.block _ (by have := HF.out.2.2.2.2; omega)).trans HF.out.2.2.1, below_step HF.out.2.2.2.1 hB5, by have := hB5.size; have := HF.out.2.2.2.2; omega⟩); clear hB5 HF hv0 hv1; have hx0 := (HG.out.2.2.2.1.cell (World.block_lt_of_cell? w _ HX.out.1)).trans HX.out.1; have hx1 := (HG.out.2.2.2.1.cell (World.block_lt_of_cell? w _ HX.out.2.1)).trans HX.out.2.1; have hx2 := (HG.out.2.2.2.1.cell (World.block_lt_of_cell? w _ HX.out.2.2)).trans HX.out.2.2)))
  clear hx0 hx1 hx2
  obtain ⟨W6, hW6⟩ : ∃ W6, W6 = (W5.alloc (.cells #[.int .i64 sa, .int .i64 s1, .int .i64 s2] 38)).alloc (.cells #[.bool true, .bool false, .bool true, .bool false] 85) := ⟨_, rfl⟩
  rw [← hW6]
  have hb6 : Below W5.heap.size W5 W6 := by rw [hW6]; exact below_alloc (below_alloc (Below.refl _ _) _) _
  have hsz6 : W6.heap.size = W5.heap.size + 1 + 1 := by rw [hW6]; simp
  have hr9 : W6.heap[W5.heap.size]? = some (.cells #[.int .i64 sa, .int .i64 s1, .int .i64 s2] 38 (0, 0)) := by
    rw [hW6]
    exact ((below_alloc (Below.refl _ _) _).block W5.heap.size (by simp)).trans (heap_alloc_new W5 _)
  have hr10 : W6.heap[W5.heap.size + 1]? = some (.cells #[.bool true, .bool false, .bool true, .bool false] 85 (0, 0)) := by
    have e1 := heap_alloc_new (W5.alloc (.cells #[.int .i64 sa, .int .i64 s1, .int .i64 s2] 38)) (.cells #[.bool true, .bool false, .bool true, .bool false] 85)
    rw [show (W5.alloc (.cells #[.int .i64 sa, .int .i64 s1, .int .i64 s2] 38)).heap.size = W5.heap.size + 1 from by simp] at e1
    rw [hW6]
    exact e1
  have HM := Aside0.mk (show bookAt W6 w.heap.size t _ _ true ∧ W6.heap[w.heap.size + 1]? = some (.cells #[.int .i64 0, .int .i64 b] 29 (0, 0)) ∧ W6.heap[w.heap.size + 1 + 1]? = some (.cells #[.int .i64 0, .slice none 0 0, .slice none 0 0, .bool false] 24 (0, 0)) ∧ Below w.heap.size w W6 ∧ w.heap.size + 3 ≤ W5.heap.size from ⟨HG.out.1.below hb6 HG.out.1.lt, (hb6.block _ (by have := HG.out.2.2.2.2; omega)).trans HG.out.2.1, (hb6.block _ (by have := HG.out.2.2.2.2; omega)).trans HG.out.2.2.1, below_step HG.out.2.2.2.1 hb6, HG.out.2.2.2.2⟩)
  have HSZ := Aside0.mk hsz6
  have hz3 := HM.out.1.c3
  have hz1 := HM.out.1.c1
  have ht0 : W6.cell? ⟨w.heap.size + 1, 0, none⟩ = some (.int .i64 0) := (blk_cell HM.out.2.1 0).trans rfl
  have hm0 : W6.cell? ⟨W5.heap.size, 0, none⟩ = some (.int .i64 sa) := (blk_cell hr9 0).trans rfl
  have hm1 : W6.cell? ⟨W5.heap.size, 1, none⟩ = some (.int .i64 s1) := (blk_cell hr9 1).trans rfl
  have hy0 : W6.cell? ⟨W5.heap.size + 1, 0, none⟩ = some (.bool true) := (blk_cell hr10 0).trans rfl
  have hy1 : W6.cell? ⟨W5.heap.size + 1, 1, none⟩ = some (.bool false) := (blk_cell hr10 1).trans rfl
  have hy2 : W6.cell? ⟨W5.heap.size + 1, 2, none⟩ = some (.bool true) := (blk_cell hr10 2).trans rfl
  have hy3 : W6.cell? ⟨W5.heap.size + 1, 3, none⟩ = some (.bool false) := (blk_cell hr10 3).trans rfl
  clear hW6 hsz6 HG hb6
  have HR9 := Aside0.mk hr9
  clear hr9 hr10
  have hc0 : W6.cell? ⟨w.heap.size + 1 + 1, 0, none⟩ = some (.int .i64 0) := (blk_cell HM.out.2.2.1 0).trans rfl
  have hc1 : W6.cell? ⟨w.heap.size + 1 + 1, 1, none⟩ = some (.slice none 0 0) := (blk_cell HM.out.2.2.1 1).trans rfl
  have hc2 : W6.cell? ⟨w.heap.size + 1 + 1, 2, none⟩ = some (.slice none 0 0) := (blk_cell HM.out.2.2.1 2).trans rfl
  have hc3 : W6.cell? ⟨w.heap.size + 1 + 1, 3, none⟩ = some (.bool false) := (blk_cell HM.out.2.2.1 3).trans rfl
  have hf0 : W6.frozen? ⟨w.heap.size + 1 + 1, 0, none⟩ = false := frozen_of_row _ _ _ _ _ HM.out.2.2.1
  have hf1 : W6.frozen? ⟨w.heap.size + 1 + 1, 1, none⟩ = false := frozen_of_row _ _ _ _ _ HM.out.2.2.1
  have hf2 : W6.frozen? ⟨w.heap.size + 1 + 1, 2, none⟩ = false := frozen_of_row _ _ _ _ _ HM.out.2.2.1
  have hf3 : W6.frozen? ⟨w.heap.size + 1 + 1, 3, none⟩ = false := frozen_of_row _ _ _ _ _ HM.out.2.2.1
  go_wp2_with fail
  refine bodyPost_ret (results_list (rs := [.cell 4 24, .tmp 5, .tmp 6, .tmp 7]) rfl (by simp) (.cell (w.heap.size + 1 + 1) 24 #[.int .i64 0, .slice none 0 0, .slice none 0 0, .bool false] (0, 0) _ rfl (by refine blk_put (cs := #[.int .i64 0, .slice none 0 0, .slice none 0 0, .bool false]) ?_ 3 _ rfl; refine blk_put (cs := #[.int .i64 0, .slice none 0 0, .slice none 0 0, .bool false]) ?_ 2 _ rfl; refine blk_put (cs := #[.int .i64 0, .slice none 0 0, .slice none 0 0, .bool false]) ?_ 1 _ rfl; refine blk_put (cs := #[.int .i64 0, .slice none 0 0, .slice none 0 0, .bool false]) ?_ 0 _ rfl; exact HM.out.2.2.1) Tryd.underlying24 rfl (by kernel_rfl) (.tmp (.tmp (.tmp .nil))))) rfl ?_
  exact ⟨rfl, (((HM.out.2.2.2.1.setCell (by simp; omega) _).setCell (by simp; omega) _).setCell (by simp; omega) _).setCell (by simp; omega) _⟩

set_option maxHeartbeats 4000000 in
set_option maxRecDepth 100000 in
theorem begin_st1_map (t : Int) (A0 : Option Addr) (c0 : Nat) (l0 : List S38) (A1 : Option Addr) (c1 : Nat) (l1 : List S38) (b : Nat) (w : World)
    (h0 : Kd.C k38 w A0 l0.length l0) (hcap0 : l0.length ≤ c0) (h1 : Kd.C k38 w A1 l1.length l1) (hl0 : l0.length ≤ 6000000000000) (hl1 : l1.length ≤ 6000000000000) (hT : Tab w) (he : knownP t l0 l1 false [⟨0, b⟩] = 0) (hb : b < l0.length) (hst : (rd_T38 l0 (b : Int)).f0 = 1) :
    Calls Tryd.prog 28 #[.agg #[.int .i64 t, .slice A0 l0.length c0, .slice A1 l1.length c1, .bool false], .agg #[.int .i64 0, .int .i64 b]] w fun e_ w' => e_ = .returned (.tuple #[.agg #[.int .i64 0, .slice none 0 0, .slice none 0 0, .bool false], .int .i64 0, .bool false, .int .i64 192]) ∧ Below w.heap.size w w' := by
  have hl3 := lays3_of w t (.slice A0 l0.length c0) (.slice A1 l1.length c1) false 0 b
  have hba : Below w.heap.size w ((w3of w t (.slice A0 l0.length c0) (.slice A1 l1.length c1) false 0 b).alloc (.cells #[.int .i64 0, .int .i64 b] 29)) := below_alloc hl3.q0 _
  have hkn := known_any t false A0 c0 l0 A1 c1 l1 (some ⟨(w3of w t (.slice A0 l0.length c0) (.slice A1 l1.length c1) false 0 b).heap.size, 0, none⟩) 1 [⟨0, b⟩] ((w3of w t (.slice A0 l0.length c0) (.slice A1 l1.length c1) false 0 b).alloc (.cells #[.int .i64 0, .int .i64 b] 29)) (Kd.C_below h0 hba) (Kd.C_below h1 hba) (C_one (w3of w t (.slice A0 l0.length c0) (.slice A1 l1.length c1) false 0 b) 0 b) (by simp) hl0 hl1 (hT.below hba)
  rw [he] at hkn
  have H0 := Aside0.mk h0
  have H1 := Aside0.mk h1
  have HCP := Aside0.mk hcap0
  obtain ⟨W3, hW3⟩ : ∃ W3, (w3of w t (.slice A0 l0.length c0) (.slice A1 l1.length c1) false 0 b) = W3 := ⟨_, rfl⟩
  rw [hW3] at hl3 hba hkn
  unfold w3of at hW3
  have HW3 := Aside0.mk hW3
  have HL := Aside0.mk hl3
  have HKN := Aside0.mk hkn
  have ha := below_alloc (Below.refl W3.heap.size W3) (.cells #[.int .i64 0, .int .i64 b] 29)
  have HBA := Aside0.mk ha
  clear hba hkn h0 h1 he hl3 hT hl0 hl1 ha hW3 hcap0
  have hu22 := Tryd.underlying22
  have hu29 := Tryd.underlying29
  have hu24 := Tryd.underlying24
  have hu38 := Tryd.underlying38
  have hu26 := Tryd.underlying26
  have hu85 := Tryd.underlying85
  have hz0 := HL.out.q2.c0
  have hz1 := HL.out.q2.c1
  have hz2 := HL.out.q2.c2
  have hz3 := HL.out.q2.c3
  have hy0 : W3.cell? ⟨w.heap.size + 1, 0, none⟩ = some (.int .i64 0) := (blk_cell HL.out.q3 0).trans rfl
  have hy1 : W3.cell? ⟨w.heap.size + 1, 1, none⟩ = some (.int .i64 b) := (blk_cell HL.out.q3 1).trans rfl
  obtain ⟨ad, ea, hx0, hx1, hx2⟩ := at_T38 H0.out (b : Int) (by omega) (by omega)
  subst ea
  rw [Int.toNat_natCast] at hx0 hx1 hx2
  obtain ⟨⟨sa, s1, s2⟩, hs⟩ : ∃ s, rd_T38 l0 (b : Int) = s := ⟨_, rfl⟩
  rw [hs] at hx0 hx1 hx2 hst
  dsimp only at *
  subst hst
  have HX := Aside0.mk (And.intro hx0 (And.intro hx1 hx2))
  have HS := Aside0.mk hs
  have HBI := Aside0.mk hb
  clear hx0 hx1 hx2 hs hb
  go_enter Tryd.func28, Tryd.ntmps28
  go_upto_region 1 with (fail)
  rw [HW3.out]
  clear HW3
  go_upto_region 6 with (first | (go_at_call 54; go_must (refine HKN.out.mono ?_; rintro e_ W4 ⟨rfl, hB4⟩; have HF := Aside0.mk (HL.out.below (below_step HBA.out hB4)); clear hB4 HL HKN HBA hz0 hz1 hz2 hz3 hy0 hy1; have hv0 : W4.cell? ⟨w.heap.size + 1, 0, none⟩ = some (.int .i64 0) := (blk_cell HF.out.2.1 0).trans rfl; have hv1 : W4.cell? ⟨w.heap.size + 1, 1, none⟩ = some (.int .i64 b) := (blk_cell HF.out.2.1 1).trans rfl)) | (go_at_call 55; go_must (refine (state_map W4 w.heap.size t ad _ _ _ false b HF.out.1 (by omega) (by have := HBI.out; omega)).mono ?_; rintro e_ W5 ⟨rfl, hB5⟩; have HG := Aside0.mk (show bookAt W5 w.heap.size t _ _ false ∧ W5.heap[w.heap.size + 1]? = some (.cells #[.int .i64 0, .int .i64 b] 29 (0, 0)) ∧ W5.heap[w.heap.size + 1 + 1]? = some (.cells #[.int .i64 0, .slice none 0 0, .slice none 0 0, .bool false] 24 (0, 0)) ∧ Below w.heap.size w W5 ∧ w.heap.size + 3 ≤ W5.heap.size from ⟨HF.out.1.below hB5 HF.out.1.lt, (hB5.block _ (by have := HF.out.2.2.2.2; omega)).trans HF.out.2.1, (hB5.block _ (by have := HF.out.2.2.2.2; omega)).trans HF.out.2.2.1, below_step HF.out.2.2.2.1 hB5, by have := hB5.size; have := HF.out.2.2.2.2; omega⟩); clear hB5 HF hv0 hv1; have hx0 := (HG.out.2.2.2.1.cell (World.block_lt_of_cell? w _ HX.out.1)).trans HX.out.1; have hx1 := (HG.out.2.2.2.1.cell (World.block_lt_of_cell? w _ HX.out.2.1)).trans HX.out.2.1; have hx2 := (HG.out.2.2.2.1.cell (World.block_lt_of_cell? w _ HX.out.2.2)).trans HX.out.2.2)))
  clear hx0 hx1 hx2
  obtain ⟨W6, hW6⟩ : ∃ W6, W6 = (W5.alloc (.cells #[.int .i64 1, .int .i64 s1, .int .i64 s2] 38)).alloc (.cells #[.bool true, .bool false, .bool true, .bool false] 85) := ⟨_, rfl⟩
  rw [← hW6]
  have hb6 : Below W5.heap.size W5 W6 := by rw [hW6]; exact below_alloc (below_alloc (Below.refl _ _) _) _
  have hsz6 : W6.heap.size = W5.heap.size + 1 + 1 := by rw [hW6]; simp
  have hr9 : W6.heap[W5.heap.size]? = some (.cells #[.int .i64 1, .int .i64 s1, .int .i64 s2] 38 (0, 0)) := by
    rw [hW6]
    exact ((below_alloc (Below.refl _ _) _).block W5.heap.size (by simp)).trans (heap_alloc_new W5 _)
  have hr10 : W6.heap[W5.heap.size + 1]? = some (.cells #[.bool true, .bool false, .bool true, .bool false] 85 (0, 0)) := by
    have e1 := heap_alloc_new (W5.alloc (.cells #[.int .i64 1, .int .i64 s1, .int .i64 s2] 38)) (.cells #[.bool true, .bool false, .bool true, .bool false] 85)
    rw [show (W5.alloc (.cells #[.int .i64 1, .int .i64 s1, .int .i64 s2] 38)).heap.size = W5.heap.size + 1 from by simp] at e1
    rw [hW6]
    exact e1
  have HM := Aside0.mk (show bookAt W6 w.heap.size t _ _ false ∧ W6.heap[w.heap.size + 1]? = some (.cells #[.int .i64 0, .int .i64 b] 29 (0, 0)) ∧ W6.heap[w.heap.size + 1 + 1]? = some (.cells #[.int .i64 0, .slice none 0 0, .slice none 0 0, .bool false] 24 (0, 0)) ∧ Below w.heap.size w W6 ∧ w.heap.size + 3 ≤ W5.heap.size from ⟨HG.out.1.below hb6 HG.out.1.lt, (hb6.block _ (by have := HG.out.2.2.2.2; omega)).trans HG.out.2.1, (hb6.block _ (by have := HG.out.2.2.2.2; omega)).trans HG.out.2.2.1, below_step HG.out.2.2.2.1 hb6, HG.out.2.2.2.2⟩)
  have HSZ := Aside0.mk hsz6
  have hz3 := HM.out.1.c3
  have hz1 := HM.out.1.c1
  have ht0 : W6.cell? ⟨w.heap.size + 1, 0, none⟩ = some (.int .i64 0) := (blk_cell HM.out.2.1 0).trans rfl
  have hm0 : W6.cell? ⟨W5.heap.size, 0, none⟩ = some (.int .i64 1) := (blk_cell hr9 0).trans rfl
  have hm1 : W6.cell? ⟨W5.heap.size, 1, none⟩ = some (.int .i64 s1) := (blk_cell hr9 1).trans rfl
  have hy0 : W6.cell? ⟨W5.heap.size + 1, 0, none⟩ = some (.bool true) := (blk_cell hr10 0).trans rfl
  have hy1 : W6.cell? ⟨W5.heap.size + 1, 1, none⟩ = some (.bool false) := (blk_cell hr10 1).trans rfl
  have hy2 : W6.cell? ⟨W5.heap.size + 1, 2, none⟩ = some (.bool true) := (blk_cell hr10 2).trans rfl
  have hy3 : W6.cell? ⟨W5.heap.size + 1, 3, none⟩ = some (.bool false) := (blk_cell hr10 3).trans rfl
  clear hW6 hsz6 HG hb6
  have HR9 := Aside0.mk hr9
  clear hr9 hr10
  have hc0 : W6.cell? ⟨w.heap.size + 1 + 1, 0, none⟩ = some (.int .i64 0) := (blk_cell HM.out.2.2.1 0).trans rfl
  have hc1 : W6.cell? ⟨w.heap.size + 1 + 1, 1, none⟩ = some (.slice none 0 0) := (blk_cell HM.out.2.2.1 1).trans rfl
  have hc2 : W6.cell? ⟨w.heap.size + 1 + 1, 2, none⟩ = some (.slice none 0 0) := (blk_cell HM.out.2.2.1 2).trans rfl
  have hc3 : W6.cell? ⟨w.heap.size + 1 + 1, 3, none⟩ = some (.bool false) := (blk_cell HM.out.2.2.1 3).trans rfl
  have hf0 : W6.frozen? ⟨w.heap.size + 1 + 1, 0, none⟩ = false := frozen_of_row _ _ _ _ _ HM.out.2.2.1
  have hf1 : W6.frozen? ⟨w.heap.size + 1 + 1, 1, none⟩ = false := frozen_of_row _ _ _ _ _ HM.out.2.2.1
  have hf2 : W6.frozen? ⟨w.heap.size + 1 + 1, 2, none⟩ = false := frozen_of_row _ _ _ _ _ HM.out.2.2.1
  have hf3 : W6.frozen? ⟨w.heap.size + 1 + 1, 3, none⟩ = false := frozen_of_row _ _ _ _ _ HM.out.2.2.1
  go_wp2_with fail
  refine bodyPost_ret (results_list (rs := [.cell 4 24, .tmp 5, .tmp 6, .tmp 7]) rfl (by simp) (.cell (w.heap.size + 1 + 1) 24 #[.int .i64 0, .slice none 0 0, .slice none 0 0, .bool false] (0, 0) _ rfl (by refine blk_put (cs := #[.int .i64 0, .slice none 0 0, .slice none 0 0, .bool false]) ?_ 3 _ rfl; refine blk_put (cs := #[.int .i64 0, .slice none 0 0, .slice none 0 0, .bool false]) ?_ 2 _ rfl; refine blk_put (cs := #[.int .i64 0, .slice none 0 0, .slice none 0 0, .bool false]) ?_ 1 _ rfl; refine blk_put (cs := #[.int .i64 0, .slice none 0 0, .slice none 0 0, .bool false]) ?_ 0 _ rfl; exact HM.out.2.2.1) Tryd.underlying24 rfl (by kernel_rfl) (.tmp (.tmp (.tmp .nil))))) rfl ?_
  exact ⟨rfl, (((HM.out.2.2.2.1.setCell (by simp; omega) _).setCell (by simp; omega) _).setCell (by simp; omega) _).setCell (by simp; omega) _⟩

set_option maxHeartbeats 4000000 in
set_option maxRecDepth 100000 in
theorem begin_st3_map (t : Int) (A0 : Option Addr) (c0 : Nat) (l0 : List S38) (A1 : Option Addr) (c1 : Nat) (l1 : List S38) (b : Nat) (w : World)
    (h0 : Kd.C k38 w A0 l0.length l0) (hcap0 : l0.length ≤ c0) (h1 : Kd.C k38 w A1 l1.length l1) (hl0 : l0.length ≤ 6000000000000) (hl1 : l1.length ≤ 6000000000000) (hT : Tab w) (he : knownP t l0 l1 false [⟨0, b⟩] = 0) (hb : b < l0.length) (hst : (rd_T38 l0 (b : Int)).f0 = 3) :
    Calls Tryd.prog 28 #[.agg #[.int .i64 t, .slice A0 l0.length c0, .slice A1 l1.length c1, .bool false], .agg #[.int .i64 0, .int .i64 b]] w fun e_ w' => e_ = .returned (.tuple #[.agg #[.int .i64 0, .slice none 0 0, .slice none 0 0, .bool false], .int .i64 0, .bool false, .int .i64 192]) ∧ Below w.heap.size w w' := by
  have hl3 := lays3_of w t (.slice A0 l0.length c0) (.slice A1 l1.length c1) false 0 b
  have hba : Below w.heap.size w ((w3of w t (.slice A0 l0.length c0) (.slice A1 l1.length c1) false 0 b).alloc (.cells #[.int .i64 0, .int .i64 b] 29)) := below_alloc hl3.q0 _
  have hkn := known_any t false A0 c0 l0 A1 c1 l1 (some ⟨(w3of w t (.slice A0 l0.length c0) (.slice A1 l1.length c1) false 0 b).heap.size, 0, none⟩) 1 [⟨0, b⟩] ((w3of w t (.slice A0 l0.length c0) (.slice A1 l1.length c1) false 0 b).alloc (.cells #[.int .i64 0, .int .i64 b] 29)) (Kd.C_below h0 hba) (Kd.C_below h1 hba) (C_one (w3of w t (.slice A0 l0.length c0) (.slice A1 l1.length c1) false 0 b) 0 b) (by simp) hl0 hl1 (hT.below hba)
  rw [he] at hkn
  have H0 := Aside0.mk h0
  have H1 := Aside0.mk h1
  have HCP := Aside0.mk hcap0
  obtain ⟨W3, hW3⟩ : ∃ W3, (w3of w t (.slice A0 l0.length c0) (.slice A1 l1.length c1) false 0 b) = W3 := ⟨_, rfl⟩
  rw [hW3] at hl3 hba hkn
  unfold w3of at hW3
  have HW3 := Aside0.mk hW3
  have HL := Aside0.mk hl3
  have HKN := Aside0.mk hkn
  have ha := below_alloc (Below.refl W3.heap.size W3) (.cells #[.int .i64 0, .int .i64 b] 29)
  have HBA := Aside0.mk ha
  clear hba hkn h0 h1 he hl3 hT hl0 hl1 ha hW3 hcap0
  have hu22 := Tryd.underlying22
  have hu29 := Tryd.underlying29
  have hu24 := Tryd.underlying24
  have hu38 := Tryd.underlying38
  have hu26 := Tryd.underlying26
  have hu85 := Tryd.underlying85
  have hz0 := HL.out.q2.c0
  have hz1 := HL.out.q2.c1
  have hz2 := HL.out.q2.c2
  have hz3 := HL.out.q2.c3
  have hy0 : W3.cell? ⟨w.heap.size + 1, 0, none⟩ = some (.int .i64 0) := (blk_cell HL.out.q3 0).trans rfl
  have hy1 : W3.cell? ⟨w.heap.size + 1, 1, none⟩ = some (.int .i64 b) := (blk_cell HL.out.q3 1).trans rfl
  obtain ⟨ad, ea, hx0, hx1, hx2⟩ := at_T38 H0.out (b : Int) (by omega) (by omega)
  subst ea
  rw [Int.toNat_natCast] at hx0 hx1 hx2
  obtain ⟨⟨sa, s1, s2⟩, hs⟩ : ∃ s, rd_T38 l0 (b : Int) = s := ⟨_, rfl⟩
  rw [hs] at hx0 hx1 hx2 hst
  dsimp only at *
  subst hst
  have HX := Aside0.mk (And.intro hx0 (And.intro hx1 hx2))
  have HS := Aside0.mk hs
  have HBI := Aside0.mk hb
  clear hx0 hx1 hx2 hs hb
  go_enter Tryd.func28, Tryd.ntmps28
  go_upto_region 1 with (fail)
  rw [HW3.out]
  clear HW3
  go_upto_region 6 with (first | (go_at_call 54; go_must (refine HKN.out.mono ?_; rintro e_ W4 ⟨rfl, hB4⟩; have HF := Aside0.mk (HL.out.below (below_step HBA.out hB4)); clear hB4 HL HKN HBA hz0 hz1 hz2 hz3 hy0 hy1; have hv0 : W4.cell? ⟨w.heap.size + 1, 0, none⟩ = some (.int .i64 0) := (blk_cell HF.out.2.1 0).trans rfl; have hv1 : W4.cell? ⟨w.heap.size + 1, 1, none⟩ = some (.int .i64 b) := (blk_cell HF.out.2.1 1).trans rfl)) | (go_at_call 55; go_must (refine (state_map W4 w.heap.size t ad _ _ _ false b HF.out.1 (by omega) (by have := HBI.out; omega)).mono ?_; rintro e_ W5 ⟨rfl, hB5⟩; have HG := Aside0.mk (show bookAt W5 w.heap.size t _ _ false ∧ W5.heap[w.heap.size + 1]? = some (.cells #[.int .i64 0, .int .i64 b] 29 (0, 0)) ∧ W5.heap[w.heap.size + 1 + 1]? = some (.cells #[.int .i64 0, .slice none 0 0, .slice none 0 0, .bool false] 24 (0, 0)) ∧ Below w.heap.size w W5 ∧ w.heap.size + 3 ≤ W5.heap.size from ⟨HF.out.1.below hB5 HF.out.1.lt, (hB5.block _ (by have := HF.out.2.2.2.2; omega)).trans HF.out.2.1, (hB5.block _ (by have := HF.out.2.2.2.2; omega)).trans HF.out.2.2.1, below_step HF.out.2.2.2.1 hB5, by have := hB5.size; have := HF.out.2.2.2.2; omega⟩); clear hB5 HF hv0 hv1; have hx0 := (HG.out.2.2.2.1.cell (World.block_lt_of_cell? w _ HX.out.1)).trans HX.out.1; have hx1 := (HG.out.2.2.2.1.cell (World.block_lt_of_cell? w _ HX.out.2.1)).trans HX.out.2.1; have hx2 := (HG.out.2.2.2.1.cell (World.block_lt_of_cell? w _ HX.out.2.2)).trans HX.out.2.2)))
  clear hx0 hx1 hx2
  obtain ⟨W6, hW6⟩ : ∃ W6, W6 = (W5.alloc (.cells #[.int .i64 3, .int .i64 s1, .int .i64 s2] 38)).alloc (.cells #[.bool true, .bool false, .bool true, .bool false] 85) := ⟨_, rfl⟩
  rw [← hW6]
  have hb6 : Below W5.heap.size W5 W6 := by rw [hW6]; exact below_alloc (below_alloc (Below.refl _ _) _) _
  have hsz6 : W6.heap.size = W5.heap.size + 1 + 1 := by rw [hW6]; simp
  have hr9 : W6.heap[W5.heap.size]? = some (.cells #[.int .i64 3, .int .i64 s1, .int .i64 s2] 38 (0, 0)) := by
    rw [hW6]
    exact ((below_alloc (Below.refl _ _) _).block W5.heap.size (by simp)).trans (heap_alloc_new W5 _)
  have hr10 : W6.heap[W5.heap.size + 1]? = some (.cells #[.bool true, .bool false, .bool true, .bool false] 85 (0, 0)) := by
    have e1 := heap_alloc_new (W5.alloc (.cells #[.int .i64 3, .int .i64 s1, .int .i64 s2] 38)) (.cells #[.bool true, .bool false, .bool true, .bool false] 85)
    rw [show (W5.alloc (.cells #[.int .i64 3, .int .i64 s1, .int .i64 s2] 38)).heap.size = W5.heap.size + 1 from by simp] at e1
    rw [hW6]
    exact e1
  have HM := Aside0.mk (show bookAt W6 w.heap.size t _ _ false ∧ W6.heap[w.heap.size + 1]? = some (.cells #[.int .i64 0, .int .i64 b] 29 (0, 0)) ∧ W6.heap[w.heap.size + 1 + 1]? = some (.cells #[.int .i64 0, .slice none 0 0, .slice none 0 0, .bool false] 24 (0, 0)) ∧ Below w.heap.size w W6 ∧ w.heap.size + 3 ≤ W5.heap.size from ⟨HG.out.1.below hb6 HG.out.1.lt, (hb6.block _ (by have := HG.out.2.2.2.2; omega)).trans HG.out.2.1, (hb6.block _ (by have := HG.out.2.2.2.2; omega)).trans HG.out.2.2.1, below_step HG.out.2.2.2.1 hb6, HG.out.2.2.2.2⟩)
  have HSZ := Aside0.mk hsz6
  have hz3 := HM.out.1.c3
  have hz1 := HM.out.1.c1
  have ht0 : W6.cell? ⟨w.heap.size + 1, 0, none⟩ = some (.int .i64 0) := (blk_cell HM.out.2.1 0).trans rfl
  have hm0 : W6.cell? ⟨W5.heap.size, 0, none⟩ = some (.int .i64 3) := (blk_cell hr9 0).trans rfl
  have hm1 : W6.cell? ⟨W5.heap.size, 1, none⟩ = some (.int .i64 s1) := (blk_cell hr9 1).trans rfl
  have hy0 : W6.cell? ⟨W5.heap.size + 1, 0, none⟩ = some (.bool true) := (blk_cell hr10 0).trans rfl
  have hy1 : W6.cell? ⟨W5.heap.size + 1, 1, none⟩ = some (.bool false) := (blk_cell hr10 1).trans rfl
  have hy2 : W6.cell? ⟨W5.heap.size + 1, 2, none⟩ = some (.bool true) := (blk_cell hr10 2).trans rfl
  have hy3 : W6.cell? ⟨W5.heap.size + 1, 3, none⟩ = some (.bool false) := (blk_cell hr10 3).trans rfl
  clear hW6 hsz6 HG hb6
  have HR9 := Aside0.mk hr9
  clear hr9 hr10
  have hc0 : W6.cell? ⟨w.heap.size + 1 + 1, 0, none⟩ = some (.int .i64 0) := (blk_cell HM.out.2.2.1 0).trans rfl
  have hc1 : W6.cell? ⟨w.heap.size + 1 + 1, 1, none⟩ = some (.slice none 0 0) := (blk_cell HM.out.2.2.1 1).trans rfl
  have hc2 : W6.cell? ⟨w.heap.size + 1 + 1, 2, none⟩ = some (.slice none 0 0) := (blk_cell HM.out.2.2.1 2).trans rfl
  have hc3 : W6.cell? ⟨w.heap.size + 1 + 1, 3, none⟩ = some (.bool false) := (blk_cell HM.out.2.2.1 3).trans rfl
  have hf0 : W6.frozen? ⟨w.heap.size + 1 + 1, 0, none⟩ = false := frozen_of_row _ _ _ _ _ HM.out.2.2.1
  have hf1 : W6.frozen? ⟨w.heap.size + 1 + 1, 1, none⟩ = false := frozen_of_row _ _ _ _ _ HM.out.2.2.1
  have hf2 : W6.frozen? ⟨w.heap.size + 1 + 1, 2, none⟩ = false := frozen_of_row _ _ _ _ _ HM.out.2.2.1
  have hf3 : W6.frozen? ⟨w.heap.size + 1 + 1, 3, none⟩ = false := frozen_of_row _ _ _ _ _ HM.out.2.2.1
  go_wp2_with fail
  refine bodyPost_ret (results_list (rs := [.cell 4 24, .tmp 5, .tmp 6, .tmp 7]) rfl (by simp) (.cell (w.heap.size + 1 + 1) 24 #[.int .i64 0, .slice none 0 0, .slice none 0 0, .bool false] (0, 0) _ rfl (by refine blk_put (cs := #[.int .i64 0, .slice none 0 0, .slice none 0 0, .bool false]) ?_ 3 _ rfl; refine blk_put (cs := #[.int .i64 0, .slice none 0 0, .slice none 0 0, .bool false]) ?_ 2 _ rfl; refine blk_put (cs := #[.int .i64 0, .slice none 0 0, .slice none 0 0, .bool false]) ?_ 1 _ rfl; refine blk_put (cs := #[.int .i64 0, .slice none 0 0, .slice none 0 0, .bool false]) ?_ 0 _ rfl; exact HM.out.2.2.1) Tryd.underlying24 rfl (by kernel_rfl) (.tmp (.tmp (.tmp .nil))))) rfl ?_
  exact ⟨rfl, (((HM.out.2.2.2.1.setCell (by simp; omega) _).setCell (by simp; omega) _).setCell (by simp; omega) _).setCell (by simp; omega) _⟩

set_option maxHeartbeats 4000000 in
set_option maxRecDepth 100000 in
theorem begin_fresh_map (t : Int) (A0 : Option Addr) (c0 : Nat) (l0 : List S38) (A1 : Option Addr) (c1 : Nat) (l1 : List S38) (b : Nat) (w : World)
    (h0 : Kd.C k38 w A0 l0.length l0) (hcap0 : l0.length ≤ c0) (h1 : Kd.C k38 w A1 l1.length l1) (hl0 : l0.length ≤ 6000000000000) (hl1 : l1.length ≤ 6000000000000) (hT : Tab w) (he : knownP t l0 l1 false [⟨0, b⟩] = 0) (hb : b < l0.length) (hst : (rd_T38 l0 (b : Int)).f0 = 0) (hl0' : l0.length ≤ 100000) (hl1' : l1.length ≤ 100000) (hsm : 0 ≤ (rd_T38 l0 (b : Int)).f1 ∧ (rd_T38 l0 (b : Int)).f1 ≤ 1000) :
    Calls Tryd.prog 28 #[.agg #[.int .i64 t, .slice A0 l0.length c0, .slice A1 l1.length c1, .bool false], .agg #[.int .i64 0, .int .i64 b]] w fun e_ w' => ∃ v1 v2 : Value, e_ = .returned (.tuple #[.agg #[.int .i64 t, v1, v2, .bool false], .int .i64 ((rd_T38 l0 (b : Int)).f1 + 1), .bool true, .int .i64 0]) ∧ Kd.R k38 38 w' w.heap.size (fun k => some k ≠ v2.ownBlock) v1 (l0.set b ⟨1, (rd_T38 l0 (b : Int)).f1 + 1, (rd_T38 l0 (b : Int)).f2⟩) ∧ Kd.R k38 38 w' w.heap.size (fun k => some k ≠ v1.ownBlock) v2 l1 ∧ Below w.heap.size w w' := by
  have hl3 := lays3_of w t (.slice A0 l0.length c0) (.slice A1 l1.length c1) false 0 b
  have hba : Below w.heap.size w ((w3of w t (.slice A0 l0.length c0) (.slice A1 l1.length c1) false 0 b).alloc (.cells #[.int .i64 0, .int .i64 b] 29)) := below_alloc hl3.q0 _
  have hkn := known_any t false A0 c0 l0 A1 c1 l1 (some ⟨(w3of w t (.slice A0 l0.length c0) (.slice A1 l1.length c1) false 0 b).heap.size, 0, none⟩) 1 [⟨0, b⟩] ((w3of w t (.slice A0 l0.length c0) (.slice A1 l1.length c1) false 0 b).alloc (.cells #[.int .i64 0, .int .i64 b] 29)) (Kd.C_below h0 hba) (Kd.C_below h1 hba) (C_one (w3of w t (.slice A0 l0.length c0) (.slice A1 l1.length c1) false 0 b) 0 b) (by simp) hl0 hl1 (hT.below hba)
  rw [he] at hkn
  have H0 := Aside0.mk h0
  have H1 := Aside0.mk h1
  have HCP := Aside0.mk hcap0
  obtain ⟨W3, hW3⟩ : ∃ W3, (w3of w t (.slice A0 l0.length c0) (.slice A1 l1.length c1) false 0 b) = W3 := ⟨_, rfl⟩
  rw [hW3] at hl3 hba hkn
  unfold w3of at hW3
  have HW3 := Aside0.mk hW3
  have HL := Aside0.mk hl3
  have HKN := Aside0.mk hkn
  have ha := below_alloc (Below.refl W3.heap.size W3) (.cells #[.int .i64 0, .int .i64 b] 29)
  have HBA := Aside0.mk ha
  clear hba hkn h0 h1 he hl3 hT hl0 hl1 ha hW3 hcap0
  have hu22 := Tryd.underlying22
  have hu29 := Tryd.underlying29
  have hu24 := Tryd.underlying24
  have hu38 := Tryd.underlying38
  have hu26 := Tryd.underlying26
  have hu85 := Tryd.underlying85
  have hz0 := HL.out.q2.c0
  have hz1 := HL.out.q2.c1
  have hz2 := HL.out.q2.c2
  have hz3 := HL.out.q2.c3
  have hy0 : W3.cell? ⟨w.heap.size + 1, 0, none⟩ = some (.int .i64 0) := (blk_cell HL.out.q3 0).trans rfl
  have hy1 : W3.cell? ⟨w.heap.size + 1, 1, none⟩ = some (.int .i64 b) := (blk_cell HL.out.q3 1).trans rfl
  obtain ⟨ad, ea, hx0, hx1, hx2⟩ := at_T38 H0.out (b : Int) (by omega) (by omega)
  subst ea
  rw [Int.toNat_natCast] at hx0 hx1 hx2
  obtain ⟨⟨sa, s1, s2⟩, hs⟩ : ∃ s, rd_T38 l0 (b : Int) = s := ⟨_, rfl⟩
  rw [hs] at hx0 hx1 hx2 hst
  rw [hs] at hsm
  rw [hs]
  dsimp only at *
  subst hst
  have HX := Aside0.mk (And.intro hx0 (And.intro hx1 hx2))
  have HS := Aside0.mk hs
  have HBI := Aside0.mk hb
  clear hx0 hx1 hx2 hs hb
  have hwr : IntKind.i64.wrap (s1 + 1) = s1 + 1 := by rw [i64_w]; unfold wrap64; omega
  clear hsm
  go_enter Tryd.func28, Tryd.ntmps28
  go_upto_region 1 with (fail)
  rw [HW3.out]
  clear HW3
  go_upto_region 6 with (first | (go_at_call 54; go_must (refine HKN.out.mono ?_; rintro e_ W4 ⟨rfl, hB4⟩; have HF := Aside0.mk (HL.out.below (below_step HBA.out hB4)); clear hB4 HL HKN HBA hz0 hz1 hz2 hz3 hy0 hy1; have hv0 : W4.cell? ⟨w.heap.size + 1, 0, none⟩ = some (.int .i64 0) := (blk_cell HF.out.2.1 0).trans rfl; have hv1 : W4.cell? ⟨w.heap.size + 1, 1, none⟩ = some (.int .i64 b) := (blk_cell HF.out.2.1 1).trans rfl)) | (go_at_call 55; go_must (refine (state_map W4 w.heap.size t ad _ _ _ false b HF.out.1 (by omega) (by have := HBI.out; omega)).mono ?_; rintro e_ W5 ⟨rfl, hB5⟩; have HG := Aside0.mk (show bookAt W5 w.heap.size t _ _ false ∧ W5.heap[w.heap.size + 1]? = some (.cells #[.int .i64 0, .int .i64 b] 29 (0, 0)) ∧ W5.heap[w.heap.size + 1 + 1]? = some (.cells #[.int .i64 0, .slice none 0 0, .slice none 0 0, .bool false] 24 (0, 0)) ∧ Below w.heap.size w W5 ∧ w.heap.size + 3 ≤ W5.heap.size from ⟨HF.out.1.below hB5 HF.out.1.lt, (hB5.block _ (by have := HF.out.2.2.2.2; omega)).trans HF.out.2.1, (hB5.block _ (by have := HF.out.2.2.2.2; omega)).trans HF.out.2.2.1, below_step HF.out.2.2.2.1 hB5, by have := hB5.size; have := HF.out.2.2.2.2; omega⟩); clear hB5 HF hv0 hv1; have hx0 := (HG.out.2.2.2.1.cell (World.block_lt_of_cell? w _ HX.out.1)).trans HX.out.1; have hx1 := (HG.out.2.2.2.1.cell (World.block_lt_of_cell? w _ HX.out.2.1)).trans HX.out.2.1; have hx2 := (HG.out.2.2.2.1.cell (World.block_lt_of_cell? w _ HX.out.2.2)).trans HX.out.2.2)))
  clear hx0 hx1 hx2
  obtain ⟨W6, hW6⟩ : ∃ W6, W6 = (W5.alloc (.cells #[.int .i64 0, .int .i64 s1, .int .i64 s2] 38)).alloc (.cells #[.bool true, .bool false, .bool true, .bool false] 85) := ⟨_, rfl⟩
  rw [← hW6]
  have hb6 : Below W5.heap.size W5 W6 := by rw [hW6]; exact below_alloc (below_alloc (Below.refl _ _) _) _
  have hsz6 : W6.heap.size = W5.heap.size + 1 + 1 := by rw [hW6]; simp
  have hr9 : W6.heap[W5.heap.size]? = some (.cells #[.int .i64 0, .int .i64 s1, .int .i64 s2] 38 (0, 0)) := by
    rw [hW6]
    exact ((below_alloc (Below.refl _ _) _).block W5.heap.size (by simp)).trans (heap_alloc_new W5 _)
  have hr10 : W6.heap[W5.heap.size + 1]? = some (.cells #[.bool true, .bool false, .bool true, .bool false] 85 (0, 0)) := by
    have e1 := heap_alloc_new (W5.alloc (.cells #[.int .i64 0, .int .i64 s1, .int .i64 s2] 38)) (.cells #[.bool true, .bool false, .bool true, .bool false] 85)
    rw [show (W5.alloc (.cells #[.int .i64 0, .int .i64 s1, .int .i64 s2] 38)).heap.size = W5.heap.size + 1 from by simp] at e1
    rw [hW6]
    exact e1
  have HM := Aside0.mk (show bookAt W6 w.heap.size t _ _ false ∧ W6.heap[w.heap.size + 1]? = some (.cells #[.int .i64 0, .int .i64 b] 29 (0, 0)) ∧ W6.heap[w.heap.size + 1 + 1]? = some (.cells #[.int .i64 0, .slice none 0 0, .slice none 0 0, .bool false] 24 (0, 0)) ∧ Below w.heap.size w W6 ∧ w.heap.size + 3 ≤ W5.heap.size from ⟨HG.out.1.below hb6 HG.out.1.lt, (hb6.block _ (by have := HG.out.2.2.2.2; omega)).trans HG.out.2.1, (hb6.block _ (by have := HG.out.2.2.2.2; omega)).trans HG.out.2.2.1, below_step HG.out.2.2.2.1 hb6, HG.out.2.2.2.2⟩)
  have HSZ := Aside0.mk hsz6
  have hz3 := HM.out.1.c3
  have hz1 := HM.out.1.c1
  have ht0 : W6.cell? ⟨w.heap.size + 1, 0, none⟩ = some (.int .i64 0) := (blk_cell HM.out.2.1 0).trans rfl
  have hm0 : W6.cell? ⟨W5.heap.size, 0, none⟩ = some (.int .i64 0) := (blk_cell hr9 0).trans rfl
  have hm1 : W6.cell? ⟨W5.heap.size, 1, none⟩ = some (.int .i64 s1) := (blk_cell hr9 1).trans rfl
  have hy0 : W6.cell? ⟨W5.heap.size + 1, 0, none⟩ = some (.bool true) := (blk_cell hr10 0).trans rfl
  have hy1 : W6.cell? ⟨W5.heap.size + 1, 1, none⟩ = some (.bool false) := (blk_cell hr10 1).trans rfl
  have hy2 : W6.cell? ⟨W5.heap.size + 1, 2, none⟩ = some (.bool true) := (blk_cell hr10 2).trans rfl
  have hy3 : W6.cell? ⟨W5.heap.size + 1, 3, none⟩ = some (.bool false) := (blk_cell hr10 3).trans rfl
  clear hW6 hsz6 HG hb6
  have HR9 := Aside0.mk hr9
  clear hr9 hr10
  have HM7 := Aside0.mk (show bookAt W6 w.heap.size t _ _ false ∧ W6.heap[w.heap.size + 1]? = some (.cells #[.int .i64 0, .int .i64 b] 29 (0, 0)) ∧ W6.heap[w.heap.size + 1 + 1]? = some (.cells #[.int .i64 0, .slice none 0 0, .slice none 0 0, .bool false] 24 (0, 0)) ∧ Below w.heap.size w W6 ∧ w.heap.size + 3 ≤ W6.heap.size from ⟨HM.out.1, HM.out.2.1, HM.out.2.2.1, HM.out.2.2.2.1, by have := HM.out.2.2.2.2; have := HSZ.out; omega⟩)
  go_upto_region 12 with (fail)
  obtain ⟨gn, hgn⟩ : ∃ gn, W6.heap.size = gn := ⟨_, rfl⟩
  have hb8 : Below W6.heap.size W6 (W6.alloc (.cells #[.int .i64 (s1 + 1)] 3)) := below_alloc (Below.refl _ _) _
  have hn8 : (W6.alloc (.cells #[.int .i64 (s1 + 1)] 3)).cell? ⟨W6.heap.size, 0, none⟩ = some (.int .i64 (s1 + 1)) := (blk_cell (heap_alloc_new W6 _) 0).trans rfl
  have hs8 : (W6.alloc (.cells #[.int .i64 (s1 + 1)] 3)).heap.size = W6.heap.size + 1 := by simp
  obtain ⟨W8, hW8⟩ : ∃ W8, W8 = W6.alloc (.cells #[.int .i64 (s1 + 1)] 3) := ⟨_, rfl⟩
  rw [← hW8] at hb8 hn8 hs8 ⊢
  rw [hgn] at hn8 hs8 ⊢
  have HN := Aside0.mk (show bookAt W8 w.heap.size t _ _ false ∧ W8.heap[w.heap.size + 1]? = some (.cells #[.int .i64 0, .int .i64 b] 29 (0, 0)) ∧ W8.heap[w.heap.size + 1 + 1]? = some (.cells #[.int .i64 0, .slice none 0 0, .slice none 0 0, .bool false] 24 (0, 0)) ∧ Below w.heap.size w W8 ∧ w.heap.size + 3 ≤ gn ∧ W8.heap.size = gn + 1 from ⟨HM7.out.1.below hb8 HM7.out.1.lt, (hb8.block _ (by have := HM7.out.2.2.2.2; omega)).trans HM7.out.2.1, (hb8.block _ (by have := HM7.out.2.2.2.2; omega)).trans HM7.out.2.2.1, below_step HM7.out.2.2.2.1 hb8, by have := HM7.out.2.2.2.2; omega, hs8⟩)
  have hsr := HS.out
  have hch := changed_map 57 #[.pointer (some ⟨gn, 0, none⟩)] (enters_of Tryd.func57 (by kernel_rfl) rfl) t false (some ad) c0 l0 A1 c1 l1 b ⟨1, (s1 + 1), s2⟩ false W8.drew (Kd.C_below (Kd.C_below H0.out HN.out.2.2.2.1) (below_drew1 (Below.refl _ _))) (Kd.C_below (Kd.C_below H1.out HN.out.2.2.2.1) (below_drew1 (Below.refl _ _))) hl0' hl1' HBI.out
    (fun W gb gs off u0 u1 g1 g2 g3 g4 g5 => by
      rw [hsr] at g2
      have hn : W.cell? ⟨gn, 0, none⟩ = some (.int .i64 (s1 + 1)) := (g5.cell (show gn < W8.drew.heap.size by show gn < W8.heap.size; omega)).trans hn8
      exact do_begin W gb gs off gn (s1 + 1) t u0 u1 false ⟨0, s1, s2⟩ g1 g2 g3 hn (by have : W8.heap.size ≤ gs := g4; omega))
  have HCH := Aside0.mk hch
  clear hch hsr hW8 hb8 hs8 hm0 hm1 hz3 hz1 ht0 hy0 hy1 hy2 hy3 hgn hl0' hl1'
  have hz0 := HN.out.1.c0
  have hz1 := HN.out.1.c1
  have hz2 := HN.out.1.c2
  have hz3 := HN.out.1.c3
  have hy0 : W8.cell? ⟨w.heap.size + 1, 0, none⟩ = some (.int .i64 0) := (blk_cell HN.out.2.1 0).trans rfl
  have hy1 : W8.cell? ⟨w.heap.size + 1, 1, none⟩ = some (.int .i64 b) := (blk_cell HN.out.2.1 1).trans rfl
  have hmf : ∀ (fn : Fn) (first cap : Array Value) (w : World), (Instr.makeFunc fn first cap).run Tryd.prog w = .ok (.func fn first cap) w := fun _ _ _ _ => rfl
  have HN8 := Aside0.mk hn8
  go_region_held3 (fun w' => w'.cell? ⟨w.heap.size, 0, none⟩ = some (.int .i64 t) ∧ w'.cell? ⟨w.heap.size, 1, none⟩ = some (.slice (some ad) l0.length c0) ∧ w'.cell? ⟨w.heap.size, 2, none⟩ = some (.slice A1 l1.length c1) ∧ w'.cell? ⟨w.heap.size, 3, none⟩ = some (.bool false) ∧ w'.cell? ⟨w.heap.size + 1, 0, none⟩ = some (.int .i64 0) ∧ w'.cell? ⟨w.heap.size + 1, 1, none⟩ = some (.int .i64 b) ∧ w'.cell? ⟨gn, 0, none⟩ = some (.int .i64 (s1 + 1))) (first | exact HS9.out | go_keep) ((go_at_call 56; go_must (refine HCH.out.mono ?_; rintro e_ W9 ⟨v1, v2, rfl, hr1, hr2, hB9⟩; have HK := Aside0.mk (hB9.size); have HR1 := Aside0.mk (Kd.R_mono (Kd.R_bound hr1) (fun k hk => (⟨hk.1, hk.2.1⟩ : _ ∧ W8.heap.size ≤ k))); have HR2 := Aside0.mk (Kd.R_mono (Kd.R_bound hr2) (fun k hk => (⟨hk.1, hk.2.1⟩ : _ ∧ W8.heap.size ≤ k))); have HB9 := Aside0.mk (below_step (below_drew1 HN.out.2.2.2.1) hB9); have HZ9 := Aside0.mk (show W9.heap[w.heap.size + 1 + 1]? = some (.cells #[.int .i64 0, .slice none 0 0, .slice none 0 0, .bool false] 24 (0, 0)) from (hB9.block _ (show w.heap.size + 1 + 1 < W8.heap.size by have := HN.out.2.2.2.2; omega)).trans HN.out.2.2.1); have j0 := (hB9.cell (show w.heap.size < W8.heap.size from HN.out.1.lt)).trans hz0; have j1 := (hB9.cell (show w.heap.size < W8.heap.size from HN.out.1.lt)).trans hz1; have j2 := (hB9.cell (show w.heap.size < W8.heap.size from HN.out.1.lt)).trans hz2; have j3 := (hB9.cell (show w.heap.size < W8.heap.size from HN.out.1.lt)).trans hz3; have j4 := (hB9.cell (show w.heap.size + 1 < W8.heap.size by have := HN.out.2.2.2.2; omega)).trans hy0; have j5 := (hB9.cell (show w.heap.size + 1 < W8.heap.size by have := HN.out.2.2.2.2; omega)).trans hy1; have j6 := (hB9.cell (show gn < W8.heap.size by have := HN.out.2.2.2.2; omega)).trans HN8.out; clear hr1 hr2 hB9; obtain ⟨B1, d1, e1⟩ := Kd.R_slice HR1.out; subst e1; obtain ⟨B2, d2, e2⟩ := Kd.R_slice HR2.out; subst e2; (try simp only [List.length_set] at HR1 HR2); have HS9 := Aside0.mk (show ((((W9.setCell ⟨w.heap.size + 1 + 1, 0, none⟩ (.int .i64 t)).setCell ⟨w.heap.size + 1 + 1, 1, none⟩ (.slice B1 l0.length d1)).setCell ⟨w.heap.size + 1 + 1, 2, none⟩ (.slice B2 l1.length d2)).setCell ⟨w.heap.size + 1 + 1, 3, none⟩ (.bool false)).cell? ⟨w.heap.size, 0, none⟩ = some (.int .i64 t) ∧ ((((W9.setCell ⟨w.heap.size + 1 + 1, 0, none⟩ (.int .i64 t)).setCell ⟨w.heap.size + 1 + 1, 1, none⟩ (.slice B1 l0.length d1)).setCell ⟨w.heap.size + 1 + 1, 2, none⟩ (.slice B2 l1.length d2)).setCell ⟨w.heap.size + 1 + 1, 3, none⟩ (.bool false)).cell? ⟨w.heap.size, 1, none⟩ = some (.slice (some ad) l0.length c0) ∧ ((((W9.setCell ⟨w.heap.size + 1 + 1, 0, none⟩ (.int .i64 t)).setCell ⟨w.heap.size + 1 + 1, 1, none⟩ (.slice B1 l0.length d1)).setCell ⟨w.heap.size + 1 + 1, 2, none⟩ (.slice B2 l1.length d2)).setCell ⟨w.heap.size + 1 + 1, 3, none⟩ (.bool false)).cell? ⟨w.heap.size, 2, none⟩ = some (.slice A1 l1.length c1) ∧ ((((W9.setCell ⟨w.heap.size + 1 + 1, 0, none⟩ (.int .i64 t)).setCell ⟨w.heap.size + 1 + 1, 1, none⟩ (.slice B1 l0.length d1)).setCell ⟨w.heap.size + 1 + 1, 2, none⟩ (.slice B2 l1.length d2)).setCell ⟨w.heap.size + 1 + 1, 3, none⟩ (.bool false)).cell? ⟨w.heap.size, 3, none⟩ = some (.bool false) ∧ ((((W9.setCell ⟨w.heap.size + 1 + 1, 0, none⟩ (.int .i64 t)).setCell ⟨w.heap.size + 1 + 1, 1, none⟩ (.slice B1 l0.length d1)).setCell ⟨w.heap.size + 1 + 1, 2, none⟩ (.slice B2 l1.length d2)).setCell ⟨w.heap.size + 1 + 1, 3, none⟩ (.bool false)).cell? ⟨w.heap.size + 1, 0, none⟩ = some (.int .i64 0) ∧ ((((W9.setCell ⟨w.heap.size + 1 + 1, 0, none⟩ (.int .i64 t)).setCell ⟨w.heap.size + 1 + 1, 1, none⟩ (.slice B1 l0.length d1)).setCell ⟨w.heap.size + 1 + 1, 2, none⟩ (.slice B2 l1.length d2)).setCell ⟨w.heap.size + 1 + 1, 3, none⟩ (.bool false)).cell? ⟨w.heap.size + 1, 1, none⟩ = some (.int .i64 b) ∧ ((((W9.setCell ⟨w.heap.size + 1 + 1, 0, none⟩ (.int .i64 t)).setCell ⟨w.heap.size + 1 + 1, 1, none⟩ (.slice B1 l0.length d1)).setCell ⟨w.heap.size + 1 + 1, 2, none⟩ (.slice B2 l1.length d2)).setCell ⟨w.heap.size + 1 + 1, 3, none⟩ (.bool false)).cell? ⟨gn, 0, none⟩ = some (.int .i64 (s1 + 1)) from ⟨far4 j0 (by omega), far4 j1 (by omega), far4 j2 (by omega), far4 j3 (by omega), far4 j4 (by omega), far4 j5 (by omega), far4 j6 (by have := HN.out.2.2.2.2; omega)⟩); have hc0 : W9.cell? ⟨w.heap.size + 1 + 1, 0, none⟩ = some (.int .i64 0) := (blk_cell HZ9.out 0).trans rfl; have hc1 : W9.cell? ⟨w.heap.size + 1 + 1, 1, none⟩ = some (.slice none 0 0) := (blk_cell HZ9.out 1).trans rfl; have hc2 : W9.cell? ⟨w.heap.size + 1 + 1, 2, none⟩ = some (.slice none 0 0) := (blk_cell HZ9.out 2).trans rfl; have hc3 : W9.cell? ⟨w.heap.size + 1 + 1, 3, none⟩ = some (.bool false) := (blk_cell HZ9.out 3).trans rfl; have hf0 : W9.frozen? ⟨w.heap.size + 1 + 1, 0, none⟩ = false := frozen_of_row _ _ _ _ _ HZ9.out; have hf1 : W9.frozen? ⟨w.heap.size + 1 + 1, 1, none⟩ = false := frozen_of_row _ _ _ _ _ HZ9.out; have hf2 : W9.frozen? ⟨w.heap.size + 1 + 1, 2, none⟩ = false := frozen_of_row _ _ _ _ _ HZ9.out; have hf3 : W9.frozen? ⟨w.heap.size + 1 + 1, 3, none⟩ = false := frozen_of_row _ _ _ _ _ HZ9.out)))
  clear HS9 j0 j1 j2 j3 j4 j5 j6 hz0 hz1 hz2 hz3 hy0 hy1 hmf hc0 hc1 hc2 hc3 hf0 hf1 hf2 hf3
  go_wp2_with fail
  refine bodyPost_ret (results_list (rs := [.cell 4 24, .tmp 5, .tmp 6, .tmp 7]) rfl (by simp) (.cell (w.heap.size + 1 + 1) 24 #[.int .i64 t, .slice B1 l0.length d1, .slice B2 l1.length d2, .bool false] (0, 0) _ rfl (by refine blk_put (cs := #[.int .i64 t, .slice B1 l0.length d1, .slice B2 l1.length d2, .bool false]) ?_ 3 _ rfl; refine blk_put (cs := #[.int .i64 t, .slice B1 l0.length d1, .slice none 0 0, .bool false]) ?_ 2 _ rfl; refine blk_put (cs := #[.int .i64 t, .slice none 0 0, .slice none 0 0, .bool false]) ?_ 1 _ rfl; refine blk_put (cs := #[.int .i64 0, .slice none 0 0, .slice none 0 0, .bool false]) ?_ 0 _ rfl; exact HZ9.out) Tryd.underlying24 rfl (by kernel_rfl) (.tmp (.tmp (.tmp .nil))))) rfl ?_
  have hs : w.heap.size + 3 ≤ W8.heap.size := by have := HN.out.2.2.2.2; omega
  refine ⟨_, _, rfl, ?_, ?_, (((HB9.out.setCell (by simp; omega) _).setCell (by simp; omega) _).setCell (by simp; omega) _).setCell (by simp; omega) _⟩
  · exact Kd.R_lower (Kd.R_mono (Kd.R_far (p := ⟨w.heap.size + 1 + 1, 3, none⟩) (Kd.R_far (p := ⟨w.heap.size + 1 + 1, 2, none⟩) (Kd.R_far (p := ⟨w.heap.size + 1 + 1, 1, none⟩) (Kd.R_far (p := ⟨w.heap.size + 1 + 1, 0, none⟩) HR1.out (fun k hk => by have := hk.2; simp; omega) _) (fun k hk => by have := hk.2; simp; omega) _) (fun k hk => by have := hk.2; simp; omega) _) (fun k hk => by have := hk.2; simp; omega) _) (fun k hk => hk.1)) (show w.heap.size ≤ W8.heap.size by omega)
  · exact Kd.R_lower (Kd.R_mono (Kd.R_far (p := ⟨w.heap.size + 1 + 1, 3, none⟩) (Kd.R_far (p := ⟨w.heap.size + 1 + 1, 2, none⟩) (Kd.R_far (p := ⟨w.heap.size + 1 + 1, 1, none⟩) (Kd.R_far (p := ⟨w.heap.size + 1 + 1, 0, none⟩) HR2.out (fun k hk => by have := hk.2; simp; omega) _) (fun k hk => by have := hk.2; simp; omega) _) (fun k hk => by have := hk.2; simp; omega) _) (fun k hk => by have := hk.2; simp; omega) _) (fun k hk => hk.1)) (show w.heap.size ≤ W8.heap.size by omega)

set_option maxHeartbeats 4000000 in
set_option maxRecDepth 100000 in
theorem begin_failed_red (t : Int) (A0 : Option Addr) (c0 : Nat) (l0 : List S38) (A1 : Option Addr) (c1 : Nat) (l1 : List S38) (b : Nat) (w : World)
    (h0 : Kd.C k38 w A0 l0.length l0) (hcap0 : l0.length ≤ c0) (h1 : Kd.C k38 w A1 l1.length l1) (hl0 : l0.length ≤ 6000000000000) (hl1 : l1.length ≤ 6000000000000) (hT : Tab w) (he : knownP t l0 l1 true [⟨1, b⟩] = 0) (hb : b < l1.length) :
    Calls Tryd.prog 28 #[.agg #[.int .i64 t, .slice A0 l0.length c0, .slice A1 l1.length c1, .bool true], .agg #[.int .i64 1, .int .i64 b]] w fun e_ w' => e_ = .returned (.tuple #[.agg #[.int .i64 0, .slice none 0 0, .slice none 0 0, .bool false], .int .i64 0, .bool false, .int .i64 192]) ∧ Below w.heap.size w w' := by
  have hl3 := lays3_of w t (.slice A0 l0.length c0) (.slice A1 l1.length c1) true 1 b
  have hba : Below w.heap.size w ((w3of w t (.slice A0 l0.length c0) (.slice A1 l1.length c1) true 1 b).alloc (.cells #[.int .i64 1, .int .i64 b] 29)) := below_alloc hl3.q0 _
  have hkn := known_any t true A0 c0 l0 A1 c1 l1 (some ⟨(w3of w t (.slice A0 l0.length c0) (.slice A1 l1.length c1) true 1 b).heap.size, 0, none⟩) 1 [⟨1, b⟩] ((w3of w t (.slice A0 l0.length c0) (.slice A1 l1.length c1) true 1 b).alloc (.cells #[.int .i64 1, .int .i64 b] 29)) (Kd.C_below h0 hba) (Kd.C_below h1 hba) (C_one (w3of w t (.slice A0 l0.length c0) (.slice A1 l1.length c1) true 1 b) 1 b) (by simp) hl0 hl1 (hT.below hba)
  rw [he] at hkn
  have H0 := Aside0.mk h0
  have H1 := Aside0.mk h1
  have HCP := Aside0.mk hcap0
  obtain ⟨W3, hW3⟩ : ∃ W3, (w3of w t (.slice A0 l0.length c0) (.slice A1 l1.length c1) true 1 b) = W3 := ⟨_, rfl⟩
  rw [hW3] at hl3 hba hkn
  unfold w3of at hW3
  have HW3 := Aside0.mk hW3
  have HL := Aside0.mk hl3
  have HKN := Aside0.mk hkn
  have ha := below_alloc (Below.refl W3.heap.size W3) (.cells #[.int .i64 1, .int .i64 b] 29)
  have HBA := Aside0.mk ha
  clear hba hkn h0 h1 he hl3 hT hl0 hl1 ha hW3 hcap0
  have hu22 := Tryd.underlying22
  have hu29 := Tryd.underlying29
  have hu24 := Tryd.underlying24
  have hu38 := Tryd.underlying38
  have hu26 := Tryd.underlying26
  have hu85 := Tryd.underlying85
  have hz0 := HL.out.q2.c0
  have hz1 := HL.out.q2.c1
  have hz2 := HL.out.q2.c2
  have hz3 := HL.out.q2.c3
  have hy0 : W3.cell? ⟨w.heap.size + 1, 0, none⟩ = some (.int .i64 1) := (blk_cell HL.out.q3 0).trans rfl
  have hy1 : W3.cell? ⟨w.heap.size + 1, 1, none⟩ = some (.int .i64 b) := (blk_cell HL.out.q3 1).trans rfl
  obtain ⟨ad, ea, hx0, hx1, hx2⟩ := at_T38 H1.out (b : Int) (by omega) (by omega)
  subst ea
  rw [Int.toNat_natCast] at hx0 hx1 hx2
  obtain ⟨⟨sa, s1, s2⟩, hs⟩ : ∃ s, rd_T38 l1 (b : Int) = s := ⟨_, rfl⟩
  rw [hs] at hx0 hx1 hx2
  dsimp only at *
  have HX := Aside0.mk (And.intro hx0 (And.intro hx1 hx2))
  have HS := Aside0.mk hs
  have HBI := Aside0.mk hb
  clear hx0 hx1 hx2 hs hb
  go_enter Tryd.func28, Tryd.ntmps28
  go_upto_region 1 with (fail)
  rw [HW3.out]
  clear HW3
  go_upto_region 6 with (first | (go_at_call 54; go_must (refine HKN.out.mono ?_; rintro e_ W4 ⟨rfl, hB4⟩; have HF := Aside0.mk (HL.out.below (below_step HBA.out hB4)); clear hB4 HL HKN HBA hz0 hz1 hz2 hz3 hy0 hy1; have hv0 : W4.cell? ⟨w.heap.size + 1, 0, none⟩ = some (.int .i64 1) := (blk_cell HF.out.2.1 0).trans rfl; have hv1 : W4.cell? ⟨w.heap.size + 1, 1, none⟩ = some (.int .i64 b) := (blk_cell HF.out.2.1 1).trans rfl)) | (go_at_call 55; go_must (refine (state_red W4 w.heap.size t ad _ _ _ true b HF.out.1 (by omega) (by have := HBI.out; omega)).mono ?_; rintro e_ W5 ⟨rfl, hB5⟩; have HG := Aside0.mk (show bookAt W5 w.heap.size t _ _ true ∧ W5.heap[w.heap.size + 1]? = some (.cells #[.int .i64 1, .int .i64 b] 29 (0, 0)) ∧ W5.heap[w.heap.size + 1 + 1]? = some (.cells #[.int .i64 0, .slice none 0 0, .slice none 0 0, .bool false] 24 (0, 0)) ∧ Below w.heap.size w W5 ∧ w.heap.size + 3 ≤ W5.heap.size from ⟨HF.out.1.below hB5 HF.out.1.lt, (hB5.block _ (by have := HF.out.2.2.2.2; omega)).trans HF.out.2.1, (hB5.block _ (by have := HF.out.2.2.2.2; omega)).trans HF.out.2.2.1, below_step HF.out.2.2.2.1 hB5, by have := hB5.size; have := HF.out.2.2.2.2; omega⟩); clear hB5 HF hv0 hv1; have hx0 := (HG.out.2.2.2.1.cell (World.block_lt_of_cell? w _ HX.out.1)).trans HX.out.1; have hx1 := (HG.out.2.2.2.1.cell (World.block_lt_of_cell? w _ HX.out.2.1)).trans HX.out.2.1; have hx2 := (HG.out.2.2.2.1.cell (World.block_lt_of_cell? w _ HX.out.2.2)).trans HX.out.2.2)))
  clear hx0 hx1 hx2
  obtain ⟨W6, hW6⟩ : ∃ W6, W6 = (W5.alloc (.cells #[.int .i64 sa, .int .i64 s1, .int .i64 s2] 38)).alloc (.cells #[.bool true, .bool false, .bool true, .bool false] 85) := ⟨_, rfl⟩
  rw [← hW6]
  have hb6 : Below W5.heap.size W5 W6 := by rw [hW6]; exact below_alloc (below_alloc (Below.refl _ _) _) _
  have hsz6 : W6.heap.size = W5.heap.size + 1 + 1 := by rw [hW6]; simp
  have hr9 : W6.heap[W5.heap.size]? = some (.cells #[.int .i64 sa, .int .i64 s1, .int .i64 s2] 38 (0, 0)) := by
    rw [hW6]
    exact ((below_alloc (Below.refl _ _) _).block W5.heap.size (by simp)).trans (heap_alloc_new W5 _)
  have hr10 : W6.heap[W5.heap.size + 1]? = some (.cells #[.bool true, .bool false, .bool true, .bool false] 85 (0, 0)) := by
    have e1 := heap_alloc_new (W5.alloc (.cells #[.int .i64 sa, .int .i64 s1, .int .i64 s2] 38)) (.cells #[.bool true, .bool false, .bool true, .bool false] 85)
    rw [show (W5.alloc (.cells #[.int .i64 sa, .int .i64 s1, .int .i64 s2] 38)).heap.size = W5.heap.size + 1 from by simp] at e1
    rw [hW6]
    exact e1
  have HM := Aside0.mk (show bookAt W6 w.heap.size t _ _ true ∧ W6.heap[w.heap.size + 1]? = some (.cells #[.int .i64 1, .int .i64 b] 29 (0, 0)) ∧ W6.heap[w.heap.size + 1 + 1]? = some (.cells #[.int .i64 0, .slice none 0 0, .slice none 0 0, .bool false] 24 (0, 0)) ∧ Below w.heap.size w W6 ∧ w.heap.size + 3 ≤ W5.heap.size from ⟨HG.out.1.below hb6 HG.out.1.lt, (hb6.block _ (by have := HG.out.2.2.2.2; omega)).trans HG.out.2.1, (hb6.block _ (by have := HG.out.2.2.2.2; omega)).trans HG.out.2.2.1, below_step HG.out.2.2.2.1 hb6, HG.out.2.2.2.2⟩)
  have HSZ := Aside0.mk hsz6
  have hz3 := HM.out.1.c3
  have hz1 := HM.out.1.c1
  have ht0 : W6.cell? ⟨w.heap.size + 1, 0, none⟩ = some (.int .i64 1) := (blk_cell HM.out.2.1 0).trans rfl
  have hm0 : W6.cell? ⟨W5.heap.size, 0, none⟩ = some (.int .i64 sa) := (blk_cell hr9 0).trans rfl
  have hm1 : W6.cell? ⟨W5.heap.size, 1, none⟩ = some (.int .i64 s1) := (blk_cell hr9 1).trans rfl
  have hy0 : W6.cell? ⟨W5.heap.size + 1, 0, none⟩ = some (.bool true) := (blk_cell hr10 0).trans rfl
  have hy1 : W6.cell? ⟨W5.heap.size + 1, 1, none⟩ = some (.bool false) := (blk_cell hr10 1).trans rfl
  have hy2 : W6.cell? ⟨W5.heap.size + 1, 2, none⟩ = some (.bool true) := (blk_cell hr10 2).trans rfl
  have hy3 : W6.cell? ⟨W5.heap.size + 1, 3, none⟩ = some (.bool false) := (blk_cell hr10 3).trans rfl
  clear hW6 hsz6 HG hb6
  have HR9 := Aside0.mk hr9
  clear hr9 hr10
  have hc0 : W6.cell? ⟨w.heap.size + 1 + 1, 0, none⟩ = some (.int .i64 0) := (blk_cell HM.out.2.2.1 0).trans rfl
  have hc1 : W6.cell? ⟨w.heap.size + 1 + 1, 1, none⟩ = some (.slice none 0 0) := (blk_cell HM.out.2.2.1 1).trans rfl
  have hc2 : W6.cell? ⟨w.heap.size + 1 + 1, 2, none⟩ = some (.slice none 0 0) := (blk_cell HM.out.2.2.1 2).trans rfl
  have hc3 : W6.cell? ⟨w.heap.size + 1 + 1, 3, none⟩ = some (.bool false) := (blk_cell HM.out.2.2.1 3).trans rfl
  have hf0 : W6.frozen? ⟨w.heap.size + 1 + 1, 0, none⟩ = false := frozen_of_row _ _ _ _ _ HM.out.2.2.1
  have hf1 : W6.frozen? ⟨w.heap.size + 1 + 1, 1, none⟩ = false := frozen_of_row _ _ _ _ _ HM.out.2.2.1
  have hf2 : W6.frozen? ⟨w.heap.size + 1 + 1, 2, none⟩ = false := frozen_of_row _ _ _ _ _ HM.out.2.2.1
  have hf3 : W6.frozen? ⟨w.heap.size + 1 + 1, 3, none⟩ = false := frozen_of_row _ _ _ _ _ HM.out.2.2.1
  go_wp2_with fail
  refine bodyPost_ret (results_list (rs := [.cell 4 24, .tmp 5, .tmp 6, .tmp 7]) rfl (by simp) (.cell (w.heap.size + 1 + 1) 24 #[.int .i64 0, .slice none 0 0, .slice none 0 0, .bool false] (0, 0) _ rfl (by refine blk_put (cs := #[.int .i64 0, .slice none 0 0, .slice none 0 0, .bool false]) ?_ 3 _ rfl; refine blk_put (cs := #[.int .i64 0, .slice none 0 0, .slice none 0 0, .bool false]) ?_ 2 _ rfl; refine blk_put (cs := #[.int .i64 0, .slice none 0 0, .slice none 0 0, .bool false]) ?_ 1 _ rfl; refine blk_put (cs := #[.int .i64 0, .slice none 0 0, .slice none 0 0, .bool false]) ?_ 0 _ rfl; exact HM.out.2.2.1) Tryd.underlying24 rfl (by kernel_rfl) (.tmp (.tmp (.tmp .nil))))) rfl ?_
  exact ⟨rfl, (((HM.out.2.2.2.1.setCell (by simp; omega) _).setCell (by simp; omega) _).setCell (by simp; omega) _).setCell (by simp; omega) _⟩

set_option maxHeartbeats 4000000 in
set_option maxRecDepth 100000 in
theorem begin_st1_red (t : Int) (A0 : Option Addr) (c0 : Nat) (l0 : List S38) (A1 : Option Addr) (c1 : Nat) (l1 : List S38) (b : Nat) (w : World)
    (h0 : Kd.C k38 w A0 l0.length l0) (hcap0 : l0.length ≤ c0) (h1 : Kd.C k38 w A1 l1.length l1) (hl0 : l0.length ≤ 6000000000000) (hl1 : l1.length ≤ 6000000000000) (hT : Tab w) (he : knownP t l0 l1 false [⟨1, b⟩] = 0) (hb : b < l1.length) (hst : (rd_T38 l1 (b : Int)).f0 = 1) :
    Calls Tryd.prog 28 #[.agg #[.int .i64 t, .slice A0 l0.length c0, .slice A1 l1.length c1, .bool false], .agg #[.int .i64 1, .int .i64 b]] w fun e_ w' => e_ = .returned (.tuple #[.agg #[.int .i64 0, .slice none 0 0, .slice none 0 0, .bool false], .int .i64 0, .bool false, .int .i64 192]) ∧ Below w.heap.size w w' := by
  have hl3 := lays3_of w t (.slice A0 l0.length c0) (.slice A1 l1.length c1) false 1 b
  have hba : Below w.heap.size w ((w3of w t (.slice A0 l0.length c0) (.slice A1 l1.length c1) false 1 b).alloc (.cells #[.int .i64 1, .int .i64 b] 29)) := below_alloc hl3.q0 _
  have hkn := known_any t false A0 c0 l0 A1 c1 l1 (some ⟨(w3of w t (.slice A0 l0.length c0) (.slice A1 l1.length c1) false 1 b).heap.size, 0, none⟩) 1 [⟨1, b⟩] ((w3of w t (.slice A0 l0.length c0) (.slice A1 l1.length c1) false 1 b).alloc (.cells #[.int .i64 1, .int .i64 b] 29)) (Kd.C_below h0 hba) (Kd.C_below h1 hba) (C_one (w3of w t (.slice A0 l0.length c0) (.slice A1 l1.length c1) false 1 b) 1 b) (by simp) hl0 hl1 (hT.below hba)
  rw [he] at hkn
  have H0 := Aside0.mk h0
  have H1 := Aside0.mk h1
  have HCP := Aside0.mk hcap0
  obtain ⟨W3, hW3⟩ : ∃ W3, (w3of w t (.slice A0 l0.length c0) (.slice A1 l1.length c1) false 1 b) = W3 := ⟨_, rfl⟩
  rw [hW3] at hl3 hba hkn
  unfold w3of at hW3
  have HW3 := Aside0.mk hW3
  have HL := Aside0.mk hl3
  have HKN := Aside0.mk hkn
  have ha := below_alloc (Below.refl W3.heap.size W3) (.cells #[.int .i64 1, .int .i64 b] 29)
  have HBA := Aside0.mk ha
  clear hba hkn h0 h1 he hl3 hT hl0 hl1 ha hW3 hcap0
  have hu22 := Tryd.underlying22
  have hu29 := Tryd.underlying29
  have hu24 := Tryd.underlying24
  have hu38 := Tryd.underlying38
  have hu26 := Tryd.underlying26
  have hu85 := Tryd.underlying85
  have hz0 := HL.out.q2.c0
  have hz1 := HL.out.q2.c1
  have hz2 := HL.out.q2.c2
  have hz3 := HL.out.q2.c3
  have hy0 : W3.cell? ⟨w.heap.size + 1, 0, none⟩ = some (.int .i64 1) := (blk_cell HL.out.q3 0).trans rfl
  have hy1 : W3.cell? ⟨w.heap.size + 1, 1, none⟩ = some (.int .i64 b) := (blk_cell HL.out.q3 1).trans rfl
  obtain ⟨ad, ea, hx0, hx1, hx2⟩ := at_T38 H1.out (b : Int) (by omega) (by omega)
  subst ea
  rw [Int.toNat_natCast] at hx0 hx1 hx2
  obtain ⟨⟨sa, s1, s2⟩, hs⟩ : ∃ s, rd_T38 l1 (b : Int) = s := ⟨_, rfl⟩
  rw [hs] at hx0 hx1 hx2 hst
  dsimp only at *
  subst hst
  have HX := Aside0.mk (And.intro hx0 (And.intro hx1 hx2))
  have HS := Aside0.mk hs
  have HBI := Aside0.mk hb
  clear hx0 hx1 hx2 hs hb
  go_enter Tryd.func28, Tryd.ntmps28
  go_upto_region 1 with (fail)
  rw [HW3.out]
  clear HW3
  go_upto_region 6 with (first | (go_at_call 54; go_must (refine HKN.out.mono ?_; rintro e_ W4 ⟨rfl, hB4⟩; have HF := Aside0.mk (HL.out.below (below_step HBA.out hB4)); clear hB4 HL HKN HBA hz0 hz1 hz2 hz3 hy0 hy1; have hv0 : W4.cell? ⟨w.heap.size + 1, 0, none⟩ = some (.int .i64 1) := (blk_cell HF.out.2.1 0).trans rfl; have hv1 : W4.cell? ⟨w.heap.size + 1, 1, none⟩ = some (.int .i64 b) := (blk_cell HF.out.2.1 1).trans rfl)) | (go_at_call 55; go_must (refine (state_red W4 w.heap.size t ad _ _ _ false b HF.out.1 (by omega) (by have := HBI.out; omega)).mono ?_; rintro e_ W5 ⟨rfl, hB5⟩; have HG := Aside0.mk (show bookAt W5 w.heap.size t _ _ false ∧ W5.heap[w.heap.size + 1]? = some (.cells #[.int .i64 1, .int .i64 b] 29 (0, 0)) ∧ W5.heap[w.heap.size + 1 + 1]? = some (.cells #[.int .i64 0, .slice none 0 0, .slice none 0 0, .bool false] 24 (0, 0)) ∧ Below w.heap.size w W5 ∧ w.heap.size + 3 ≤ W5.heap.size from ⟨HF.out.1.below hB5 HF.out.1.lt, (hB5.block _ (by have := HF.out.2.2.2.2; omega)).trans HF.out.2.1, (hB5.block _ (by have := HF.out.2.2.2.2; omega)).trans HF.out.2.2.1, below_step HF.out.2.2.2.1 hB5, by have := hB5.size; have := HF.out.2.2.2.2; omega⟩); clear hB5 HF hv0 hv1; have hx0 := (HG.out.2.2.2.1.cell (World.block_lt_of_cell? w _ HX.out.1)).trans HX.out.1; have hx1 := (HG.out.2.2.2.1.cell (World.block_lt_of_cell? w _ HX.out.2.1)).trans HX.out.2.1; have hx2 := (HG.out.2.2.2.1.cell (World.block_lt_of_cell? w _ HX.out.2.2)).trans HX.out.2.2)))
  clear hx0 hx1 hx2
  obtain ⟨W6, hW6⟩ : ∃ W6, W6 = (W5.alloc (.cells #[.int .i64 1, .int .i64 s1, .int .i64 s2] 38)).alloc (.cells #[.bool true, .bool false, .bool true, .bool false] 85) := ⟨_, rfl⟩
  rw [← hW6]
  have hb6 : Below W5.heap.size W5 W6 := by rw [hW6]; exact below_alloc (below_alloc (Below.refl _ _) _) _
  have hsz6 : W6.heap.size = W5.heap.size + 1 + 1 := by rw [hW6]; simp
  have hr9 : W6.heap[W5.heap.size]? = some (.cells #[.int .i64 1, .int .i64 s1, .int .i64 s2] 38 (0, 0)) := by
    rw [hW6]
    exact ((below_alloc (Below.refl _ _) _).block W5.heap.size (by simp)).trans (heap_alloc_new W5 _)
  have hr10 : W6.heap[W5.heap.size + 1]? = some (.cells #[.bool true, .bool false, .bool true, .bool false] 85 (0, 0)) := by
    have e1 := heap_alloc_new (W5.alloc (.cells #[.int .i64 1, .int .i64 s1, .int .i64 s2] 38)) (.cells #[.bool true, .bool false, .bool true, .bool false] 85)
    rw [show (W5.alloc (.cells #[.int .i64 1, .int .i64 s1, .int .i64 s2] 38)).heap.size = W5.heap.size + 1 from by simp] at e1
    rw [hW6]
    exact e1
  have HM := Aside0.mk (show bookAt W6 w.heap.size t _ _ false ∧ W6.heap[w.heap.size + 1]? = some (.cells #[.int .i64 1, .int .i64 b] 29 (0, 0)) ∧ W6.heap[w.heap.size + 1 + 1]? = some (.cells #[.int .i64 0, .slice none 0 0, .slice none 0 0, .bool false] 24 (0, 0)) ∧ Below w.heap.size w W6 ∧ w.heap.size + 3 ≤ W5.heap.size from ⟨HG.out.1.below hb6 HG.out.1.lt, (hb6.block _ (by have := HG.out.2.2.2.2; omega)).trans HG.out.2.1, (hb6.block _ (by have := HG.out.2.2.2.2; omega)).trans HG.out.2.2.1, below_step HG.out.2.2.2.1 hb6, HG.out.2.2.2.2⟩)
  have HSZ := Aside0.mk hsz6
  have hz3 := HM.out.1.c3
  have hz1 := HM.out.1.c1
  have ht0 : W6.cell? ⟨w.heap.size + 1, 0, none⟩ = some (.int .i64 1) := (blk_cell HM.out.2.1 0).trans rfl
  have hm0 : W6.cell? ⟨W5.heap.size, 0, none⟩ = some (.int .i64 1) := (blk_cell hr9 0).trans rfl
  have hm1 : W6.cell? ⟨W5.heap.size, 1, none⟩ = some (.int .i64 s1) := (blk_cell hr9 1).trans rfl
  have hy0 : W6.cell? ⟨W5.heap.size + 1, 0, none⟩ = some (.bool true) := (blk_cell hr10 0).trans rfl
  have hy1 : W6.cell? ⟨W5.heap.size + 1, 1, none⟩ = some (.bool false) := (blk_cell hr10 1).trans rfl
  have hy2 : W6.cell? ⟨W5.heap.size + 1, 2, none⟩ = some (.bool true) := (blk_cell hr10 2).trans rfl
  have hy3 : W6.cell? ⟨W5.heap.size + 1, 3, none⟩ = some (.bool false) := (blk_cell hr10 3).trans rfl
  clear hW6 hsz6 HG hb6
  have HR9 := Aside0.mk hr9
  clear hr9 hr10
  have hc0 : W6.cell? ⟨w.heap.size + 1 + 1, 0, none⟩ = some (.int .i64 0) := (blk_cell HM.out.2.2.1 0).trans rfl
  have hc1 : W6.cell? ⟨w.heap.size + 1 + 1, 1, none⟩ = some (.slice none 0 0) := (blk_cell HM.out.2.2.1 1).trans rfl
  have hc2 : W6.cell? ⟨w.heap.size + 1 + 1, 2, none⟩ = some (.slice none 0 0) := (blk_cell HM.out.2.2.1 2).trans rfl
  have hc3 : W6.cell? ⟨w.heap.size + 1 + 1, 3, none⟩ = some (.bool false) := (blk_cell HM.out.2.2.1 3).trans rfl
  have hf0 : W6.frozen? ⟨w.heap.size + 1 + 1, 0, none⟩ = false := frozen_of_row _ _ _ _ _ HM.out.2.2.1
  have hf1 : W6.frozen? ⟨w.heap.size + 1 + 1, 1, none⟩ = false := frozen_of_row _ _ _ _ _ HM.out.2.2.1
  have hf2 : W6.frozen? ⟨w.heap.size + 1 + 1, 2, none⟩ = false := frozen_of_row _ _ _ _ _ HM.out.2.2.1
  have hf3 : W6.frozen? ⟨w.heap.size + 1 + 1, 3, none⟩ = false := frozen_of_row _ _ _ _ _ HM.out.2.2.1
  go_wp2_with fail
  refine bodyPost_ret (results_list (rs := [.cell 4 24, .tmp 5, .tmp 6, .tmp 7]) rfl (by simp) (.cell (w.heap.size + 1 + 1) 24 #[.int .i64 0, .slice none 0 0, .slice none 0 0, .bool false] (0, 0) _ rfl (by refine blk_put (cs := #[.int .i64 0, .slice none 0 0, .slice none 0 0, .bool false]) ?_ 3 _ rfl; refine blk_put (cs := #[.int .i64 0, .slice none 0 0, .slice none 0 0, .bool false]) ?_ 2 _ rfl; refine blk_put (cs := #[.int .i64 0, .slice none 0 0, .slice none 0 0, .bool false]) ?_ 1 _ rfl; refine blk_put (cs := #[.int .i64 0, .slice none 0 0, .slice none 0 0, .bool false]) ?_ 0 _ rfl; exact HM.out.2.2.1) Tryd.underlying24 rfl (by kernel_rfl) (.tmp (.tmp (.tmp .nil))))) rfl ?_
  exact ⟨rfl, (((HM.out.2.2.2.1.setCell (by simp; omega) _).setCell (by simp; omega) _).setCell (by simp; omega) _).setCell (by simp; omega) _⟩

set_option maxHeartbeats 4000000 in
set_option maxRecDepth 100000 in
theorem begin_st3_red (t : Int) (A0 : Option Addr) (c0 : Nat) (l0 : List S38) (A1 : Option Addr) (c1 : Nat) (l1 : List S38) (b : Nat) (w : World)
    (h0 : Kd.C k38 w A0 l0.length l0) (hcap0 : l0.length ≤ c0) (h1 : Kd.C k38 w A1 l1.length l1) (hl0 : l0.length ≤ 6000000000000) (hl1 : l1.length ≤ 6000000000000) (hT : Tab w) (he : knownP t l0 l1 false [⟨1, b⟩] = 0) (hb : b < l1.length) (hst : (rd_T38 l1 (b : Int)).f0 = 3) :
    Calls Tryd.prog 28 #[.agg #[.int .i64 t, .slice A0 l0.length c0, .slice A1 l1.length c1, .bool false], .agg #[.int .i64 1, .int .i64 b]] w fun e_ w' => e_ = .returned (.tuple #[.agg #[.int .i64 0, .slice none 0 0, .slice none 0 0, .bool false], .int .i64 0, .bool false, .int .i64 192]) ∧ Below w.heap.size w w' := by
  have hl3 := lays3_of w t (.slice A0 l0.length c0) (.slice A1 l1.length c1) false 1 b
  have hba : Below w.heap.size w ((w3of w t (.slice A0 l0.length c0) (.slice A1 l1.length c1) false 1 b).alloc (.cells #[.int .i64 1, .int .i64 b] 29)) := below_alloc hl3.q0 _
  have hkn := known_any t false A0 c0 l0 A1 c1 l1 (some ⟨(w3of w t (.slice A0 l0.length c0) (.slice A1 l1.length c1) false 1 b).heap.size, 0, none⟩) 1 [⟨1, b⟩] ((w3of w t (.slice A0 l0.length c0) (.slice A1 l1.length c1) false 1 b).alloc (.cells #[.int .i64 1, .int .i64 b] 29)) (Kd.C_below h0 hba) (Kd.C_below h1 hba) (C_one (w3of w t (.slice A0 l0.length c0) (.slice A1 l1.length c1) false 1 b) 1 b) (by simp) hl0 hl1 (hT.below hba)
  rw [he] at hkn
  have H0 := Aside0.mk h0
  have H1 := Aside0.mk h1
  have HCP := Aside0.mk hcap0
  obtain ⟨W3, hW3⟩ : ∃ W3, (w3of w t (.slice A0 l0.length c0) (.slice A1 l1.length c1) false 1 b) = W3 := ⟨_, rfl⟩
  rw [hW3] at hl3 hba hkn
  unfold w3of at hW3
  have HW3 := Aside0.mk hW3
  have HL := Aside0.mk hl3
  have HKN := Aside0.mk hkn
  have ha := below_alloc (Below.refl W3.heap.size W3) (.cells #[.int .i64 1, .int .i64 b] 29)
  have HBA := Aside0.mk ha
  clear hba hkn h0 h1 he hl3 hT hl0 hl1 ha hW3 hcap0
  have hu22 := Tryd.underlying22
  have hu29 := Tryd.underlying29
  have hu24 := Tryd.underlying24
  have hu38 := Tryd.underlying38
  have hu26 := Tryd.underlying26
  have hu85 := Tryd.underlying85
  have hz0 := HL.out.q2.c0
  have hz1 := HL.out.q2.c1
  have hz2 := HL.out.q2.c2
  have hz3 := HL.out.q2.c3
  have hy0 : W3.cell? ⟨w.heap.size + 1, 0, none⟩ = some (.int .i64 1) := (blk_cell HL.out.q3 0).trans rfl
  have hy1 : W3.cell? ⟨w.heap.size + 1, 1, none⟩ = some (.int .i64 b) := (blk_cell HL.out.q3 1).trans rfl
  obtain ⟨ad, ea, hx0, hx1, hx2⟩ := at_T38 H1.out (b : Int) (by omega) (by omega)
  subst ea
  rw [Int.toNat_natCast] at hx0 hx1 hx2
  obtain ⟨⟨sa, s1, s2⟩, hs⟩ : ∃ s, rd_T38 l1 (b : Int) = s := ⟨_, rfl⟩
  rw [hs] at hx0 hx1 hx2 hst
  dsimp only at *
  subst hst
  have HX := Aside0.mk (And.intro hx0 (And.intro hx1 hx2))
  have HS := Aside0.mk hs
  have HBI := Aside0.mk hb
  clear hx0 hx1 hx2 hs hb
  go_enter Tryd.func28, Tryd.ntmps28
  go_upto_region 1 with (fail)
  rw [HW3.out]
  clear HW3
  go_upto_region 6 with (first | (go_at_call 54; go_must (refine HKN.out.mono ?_; rintro e_ W4 ⟨rfl, hB4⟩; have HF := Aside0.mk (HL.out.below (below_step HBA.out hB4)); clear hB4 HL HKN HBA hz0 hz1 hz2 hz3 hy0 hy1; have hv0 : W4.cell? ⟨w.heap.size + 1, 0, none⟩ = some (.int .i64 1) := (blk_cell HF.out.2.1 0).trans rfl; have hv1 : W4.cell? ⟨w.heap.size + 1, 1, none⟩ = some (.int .i64 b) := (blk_cell HF.out.2.1 1).trans rfl)) | (go_at_call 55; go_must (refine (state_red W4 w.heap.size t ad _ _ _ false b HF.out.1 (by omega) (by have := HBI.out; omega)).mono ?_; rintro e_ W5 ⟨rfl, hB5⟩; have HG := Aside0.mk (show bookAt W5 w.heap.size t _ _ false ∧ W5.heap[w.heap.size + 1]? = some (.cells #[.int .i64 1, .int .i64 b] 29 (0, 0)) ∧ W5.heap[w.heap.size + 1 + 1]? = some (.cells #[.int .i64 0, .slice none 0 0, .slice none 0 0, .bool false] 24 (0, 0)) ∧ Below w.heap.size w W5 ∧ w.heap.size + 3 ≤ W5.heap.size from ⟨HF.out.1.below hB5 HF.out.1.lt, (hB5.block _ (by have := HF.out.2.2.2.2; omega)).trans HF.out.2.1, (hB5.block _ (by have := HF.out.2.2.2.2; omega)).trans HF.out.2.2.1, below_step HF.out.2.2.2.1 hB5, by have := hB5.size; have := HF.out.2.2.2.2; omega⟩); clear hB5 HF hv0 hv1; have hx0 := (HG.out.2.2.2.1.cell (World.block_lt_of_cell? w _ HX.out.1)).trans HX.out.1; have hx1 := (HG.out.2.2.2.1.cell (World.block_lt_of_cell? w _ HX.out.2.1)).trans HX.out.2.1; have hx2 := (HG.out.2.2.2.1.cell (World.block_lt_of_cell? w _ HX.out.2.2)).trans HX.out.2.2)))
  clear hx0 hx1 hx2
  obtain ⟨W6, hW6⟩ : ∃ W6, W6 = (W5.alloc (.cells #[.int .i64 3, .int .i64 s1, .int .i64 s2] 38)).alloc (.cells #[.bool true, .bool false, .bool true, .bool false] 85) := ⟨_, rfl⟩
  rw [← hW6]
  have hb6 : Below W5.heap.size W5 W6 := by rw [hW6]; exact below_alloc (below_alloc (Below.refl _ _) _) _
  have hsz6 : W6.heap.size = W5.heap.size + 1 + 1 := by rw [hW6]; simp
  have hr9 : W6.heap[W5.heap.size]? = some (.cells #[.int .i64 3, .int .i64 s1, .int .i64 s2] 38 (0, 0)) := by
    rw [hW6]
    exact ((below_alloc (Below.refl _ _) _).block W5.heap.size (by simp)).trans (heap_alloc_new W5 _)
  have hr10 : W6.heap[W5.heap.size + 1]? = some (.cells #[.bool true, .bool false, .bool true, .bool false] 85 (0, 0)) := by
    have e1 := heap_alloc_new (W5.alloc (.cells #[.int .i64 3, .int .i64 s1, .int .i64 s2] 38)) (.cells #[.bool true, .bool false, .bool true, .bool false] 85)
    rw [show (W5.alloc (.cells #[.int .i64 3, .int .i64 s1, .int .i64 s2] 38)).heap.size = W5.heap.size + 1 from by simp] at e1
    rw [hW6]
    exact e1
  have HM := Aside0.mk (show bookAt W6 w.heap.size t _ _ false ∧ W6.heap[w.heap.size + 1]? = some (.cells #[.int .i64 1, .int .i64 b] 29 (0, 0)) ∧ W6.heap[w.heap.size + 1 + 1]? = some (.cells #[.int .i64 0, .slice none 0 0, .slice none 0 0, .bool false] 24 (0, 0)) ∧ Below w.heap.size w W6 ∧ w.heap.size + 3 ≤ W5.heap.size from ⟨HG.out.1.below hb6 HG.out.1.lt, (hb6.block _ (by have := HG.out.2.2.2.2; omega)).trans HG.out.2.1, (hb6.block _ (by have := HG.out.2.2.2.2; omega)).trans HG.out.2.2.1, below_step HG.out.2.2.2.1 hb6, HG.out.2.2.2.2⟩)
  have HSZ := Aside0.mk hsz6
  have hz3 := HM.out.1.c3
  have hz1 := HM.out.1.c1
  have ht0 : W6.cell? ⟨w.heap.size + 1, 0, none⟩ = some (.int .i64 1) := (blk_cell HM.out.2.1 0).trans rfl
  have hm0 : W6.cell? ⟨W5.heap.size, 0, none⟩ = some (.int .i64 3) := (blk_cell hr9 0).trans rfl
  have hm1 : W6.cell? ⟨W5.heap.size, 1, none⟩ = some (.int .i64 s1) := (blk_cell hr9 1).trans rfl
  have hy0 : W6.cell? ⟨W5.heap.size + 1, 0, none⟩ = some (.bool true) := (blk_cell hr10 0).trans rfl
  have hy1 : W6.cell? ⟨W5.heap.size + 1, 1, none⟩ = some (.bool false) := (blk_cell hr10 1).trans rfl
  have hy2 : W6.cell? ⟨W5.heap.size + 1, 2, none⟩ = some (.bool true) := (blk_cell hr10 2).trans rfl
  have hy3 : W6.cell? ⟨W5.heap.size + 1, 3, none⟩ = some (.bool false) := (blk_cell hr10 3).trans rfl
  clear hW6 hsz6 HG hb6
  have HR9 := Aside0.mk hr9
  clear hr9 hr10
  have hc0 : W6.cell? ⟨w.heap.size + 1 + 1, 0, none⟩ = some (.int .i64 0) := (blk_cell HM.out.2.2.1 0).trans rfl
  have hc1 : W6.cell? ⟨w.heap.size + 1 + 1, 1, none⟩ = some (.slice none 0 0) := (blk_cell HM.out.2.2.1 1).trans rfl
  have hc2 : W6.cell? ⟨w.heap.size + 1 + 1, 2, none⟩ = some (.slice none 0 0) := (blk_cell HM.out.2.2.1 2).trans rfl
  have hc3 : W6.cell? ⟨w.heap.size + 1 + 1, 3, none⟩ = some (.bool false) := (blk_cell HM.out.2.2.1 3).trans rfl
  have hf0 : W6.frozen? ⟨w.heap.size + 1 + 1, 0, none⟩ = false := frozen_of_row _ _ _ _ _ HM.out.2.2.1
  have hf1 : W6.frozen? ⟨w.heap.size + 1 + 1, 1, none⟩ = false := frozen_of_row _ _ _ _ _ HM.out.2.2.1
  have hf2 : W6.frozen? ⟨w.heap.size + 1 + 1, 2, none⟩ = false := frozen_of_row _ _ _ _ _ HM.out.2.2.1
  have hf3 : W6.frozen? ⟨w.heap.size + 1 + 1, 3, none⟩ = false := frozen_of_row _ _ _ _ _ HM.out.2.2.1
  go_wp2_with fail
  refine bodyPost_ret (results_list (rs := [.cell 4 24, .tmp 5, .tmp 6, .tmp 7]) rfl (by simp) (.cell (w.heap.size + 1 + 1) 24 #[.int .i64 0, .slice none 0 0, .slice none 0 0, .bool false] (0, 0) _ rfl (by refine blk_put (cs := #[.int .i64 0, .slice none 0 0, .slice none 0 0, .bool false]) ?_ 3 _ rfl; refine blk_put (cs := #[.int .i64 0, .slice none 0 0, .slice none 0 0, .bool false]) ?_ 2 _ rfl; refine blk_put (cs := #[.int .i64 0, .slice none 0 0, .slice none 0 0, .bool false]) ?_ 1 _ rfl; refine blk_put (cs := #[.int .i64 0, .slice none 0 0, .slice none 0 0, .bool false]) ?_ 0 _ rfl; exact HM.out.2.2.1) Tryd.underlying24 rfl (by kernel_rfl) (.tmp (.tmp (.tmp .nil))))) rfl ?_
  exact ⟨rfl, (((HM.out.2.2.2.1.setCell (by simp; omega) _).setCell (by simp; omega) _).setCell (by simp; omega) _).setCell (by simp; omega) _⟩

set_option maxHeartbeats 4000000 in
set_option maxRecDepth 100000 in
theorem begin_notall0_red (t : Int) (A0 : Option Addr) (c0 : Nat) (l0 : List S38) (A1 : Option Addr) (c1 : Nat) (l1 : List S38) (b : Nat) (w : World)
    (h0 : Kd.C k38 w A0 l0.length l0) (hcap0 : l0.length ≤ c0) (h1 : Kd.C k38 w A1 l1.length l1) (hl0 : l0.length ≤ 6000000000000) (hl1 : l1.length ≤ 6000000000000) (hT : Tab w) (he : knownP t l0 l1 false [⟨1, b⟩] = 0) (hb : b < l1.length) (hst : (rd_T38 l1 (b : Int)).f0 = 0) (kf : Nat) (hall : ledger_all.f kf l0 = some false) :
    Calls Tryd.prog 28 #[.agg #[.int .i64 t, .slice A0 l0.length c0, .slice A1 l1.length c1, .bool false], .agg #[.int .i64 1, .int .i64 b]] w fun e_ w' => e_ = .returned (.tuple #[.agg #[.int .i64 0, .slice none 0 0, .slice none 0 0, .bool false], .int .i64 0, .bool false, .int .i64 192]) ∧ Below w.heap.size w w' := by
  have hl3 := lays3_of w t (.slice A0 l0.length c0) (.slice A1 l1.length c1) false 1 b
  have hba : Below w.heap.size w ((w3of w t (.slice A0 l0.length c0) (.slice A1 l1.length c1) false 1 b).alloc (.cells #[.int .i64 1, .int .i64 b] 29)) := below_alloc hl3.q0 _
  have hkn := known_any t false A0 c0 l0 A1 c1 l1 (some ⟨(w3of w t (.slice A0 l0.length c0) (.slice A1 l1.length c1) false 1 b).heap.size, 0, none⟩) 1 [⟨1, b⟩] ((w3of w t (.slice A0 l0.length c0) (.slice A1 l1.length c1) false 1 b).alloc (.cells #[.int .i64 1, .int .i64 b] 29)) (Kd.C_below h0 hba) (Kd.C_below h1 hba) (C_one (w3of w t (.slice A0 l0.length c0) (.slice A1 l1.length c1) false 1 b) 1 b) (by simp) hl0 hl1 (hT.below hba)
  rw [he] at hkn
  have H0 := Aside0.mk h0
  have H1 := Aside0.mk h1
  have HCP := Aside0.mk hcap0
  obtain ⟨W3, hW3⟩ : ∃ W3, (w3of w t (.slice A0 l0.length c0) (.slice A1 l1.length c1) false 1 b) = W3 := ⟨_, rfl⟩
  rw [hW3] at hl3 hba hkn
  unfold w3of at hW3
  have HW3 := Aside0.mk hW3
  have HL := Aside0.mk hl3
  have HKN := Aside0.mk hkn
  have ha := below_alloc (Below.refl W3.heap.size W3) (.cells #[.int .i64 1, .int .i64 b] 29)
  have HBA := Aside0.mk ha
  clear hba hkn h0 h1 he hl3 hT hl0 hl1 ha hW3 hcap0
  have hu22 := Tryd.underlying22
  have hu29 := Tryd.underlying29
  have hu24 := Tryd.underlying24
  have hu38 := Tryd.underlying38
  have hu26 := Tryd.underlying26
  have hu85 := Tryd.underlying85
  have hz0 := HL.out.q2.c0
  have hz1 := HL.out.q2.c1
  have hz2 := HL.out.q2.c2
  have hz3 := HL.out.q2.c3
  have hy0 : W3.cell? ⟨w.heap.size + 1, 0, none⟩ = some (.int .i64 1) := (blk_cell HL.out.q3 0).trans rfl
  have hy1 : W3.cell? ⟨w.heap.size + 1, 1, none⟩ = some (.int .i64 b) := (blk_cell HL.out.q3 1).trans rfl
  obtain ⟨ad, ea, hx0, hx1, hx2⟩ := at_T38 H1.out (b : Int) (by omega) (by omega)
  subst ea
  rw [Int.toNat_natCast] at hx0 hx1 hx2
  obtain ⟨⟨sa, s1, s2⟩, hs⟩ : ∃ s, rd_T38 l1 (b : Int) = s := ⟨_, rfl⟩
  rw [hs] at hx0 hx1 hx2 hst
  dsimp only at *
  subst hst
  have HX := Aside0.mk (And.intro hx0 (And.intro hx1 hx2))
  have HS := Aside0.mk hs
  have HBI := Aside0.mk hb
  clear hx0 hx1 hx2 hs hb
  go_enter Tryd.func28, Tryd.ntmps28
  go_upto_region 1 with (fail)
  rw [HW3.out]
  clear HW3
  go_upto_region 6 with (first | (go_at_call 54; go_must (refine HKN.out.mono ?_; rintro e_ W4 ⟨rfl, hB4⟩; have HF := Aside0.mk (HL.out.below (below_step HBA.out hB4)); clear hB4 HL HKN HBA hz0 hz1 hz2 hz3 hy0 hy1; have hv0 : W4.cell? ⟨w.heap.size + 1, 0, none⟩ = some (.int .i64 1) := (blk_cell HF.out.2.1 0).trans rfl; have hv1 : W4.cell? ⟨w.heap.size + 1, 1, none⟩ = some (.int .i64 b) := (blk_cell HF.out.2.1 1).trans rfl)) | (go_at_call 55; go_must (refine (state_red W4 w.heap.size t ad _ _ _ false b HF.out.1 (by omega) (by have := HBI.out; omega)).mono ?_; rintro e_ W5 ⟨rfl, hB5⟩; have HG := Aside0.mk (show bookAt W5 w.heap.size t _ _ false ∧ W5.heap[w.heap.size + 1]? = some (.cells #[.int .i64 1, .int .i64 b] 29 (0, 0)) ∧ W5.heap[w.heap.size + 1 + 1]? = some (.cells #[.int .i64 0, .slice none 0 0, .slice none 0 0, .bool false] 24 (0, 0)) ∧ Below w.heap.size w W5 ∧ w.heap.size + 3 ≤ W5.heap.size from ⟨HF.out.1.below hB5 HF.out.1.lt, (hB5.block _ (by have := HF.out.2.2.2.2; omega)).trans HF.out.2.1, (hB5.block _ (by have := HF.out.2.2.2.2; omega)).trans HF.out.2.2.1, below_step HF.out.2.2.2.1 hB5, by have := hB5.size; have := HF.out.2.2.2.2; omega⟩); clear hB5 HF hv0 hv1; have hx0 := (HG.out.2.2.2.1.cell (World.block_lt_of_cell? w _ HX.out.1)).trans HX.out.1; have hx1 := (HG.out.2.2.2.1.cell (World.block_lt_of_cell? w _ HX.out.2.1)).trans HX.out.2.1; have hx2 := (HG.out.2.2.2.1.cell (World.block_lt_of_cell? w _ HX.out.2.2)).trans HX.out.2.2)))
  clear hx0 hx1 hx2
  obtain ⟨W6, hW6⟩ : ∃ W6, W6 = (W5.alloc (.cells #[.int .i64 0, .int .i64 s1, .int .i64 s2] 38)).alloc (.cells #[.bool true, .bool false, .bool true, .bool false] 85) := ⟨_, rfl⟩
  rw [← hW6]
  have hb6 : Below W5.heap.size W5 W6 := by rw [hW6]; exact below_alloc (below_alloc (Below.refl _ _) _) _
  have hsz6 : W6.heap.size = W5.heap.size + 1 + 1 := by rw [hW6]; simp
  have hr9 : W6.heap[W5.heap.size]? = some (.cells #[.int .i64 0, .int .i64 s1, .int .i64 s2] 38 (0, 0)) := by
    rw [hW6]
    exact ((below_alloc (Below.refl _ _) _).block W5.heap.size (by simp)).trans (heap_alloc_new W5 _)
  have hr10 : W6.heap[W5.heap.size + 1]? = some (.cells #[.bool true, .bool false, .bool true, .bool false] 85 (0, 0)) := by
    have e1 := heap_alloc_new (W5.alloc (.cells #[.int .i64 0, .int .i64 s1, .int .i64 s2] 38)) (.cells #[.bool true, .bool false, .bool true, .bool false] 85)
    rw [show (W5.alloc (.cells #[.int .i64 0, .int .i64 s1, .int .i64 s2] 38)).heap.size = W5.heap.size + 1 from by simp] at e1
    rw [hW6]
    exact e1
  have HM := Aside0.mk (show bookAt W6 w.heap.size t _ _ false ∧ W6.heap[w.heap.size + 1]? = some (.cells #[.int .i64 1, .int .i64 b] 29 (0, 0)) ∧ W6.heap[w.heap.size + 1 + 1]? = some (.cells #[.int .i64 0, .slice none 0 0, .slice none 0 0, .bool false] 24 (0, 0)) ∧ Below w.heap.size w W6 ∧ w.heap.size + 3 ≤ W5.heap.size from ⟨HG.out.1.below hb6 HG.out.1.lt, (hb6.block _ (by have := HG.out.2.2.2.2; omega)).trans HG.out.2.1, (hb6.block _ (by have := HG.out.2.2.2.2; omega)).trans HG.out.2.2.1, below_step HG.out.2.2.2.1 hb6, HG.out.2.2.2.2⟩)
  have HSZ := Aside0.mk hsz6
  have hz3 := HM.out.1.c3
  have hz1 := HM.out.1.c1
  have ht0 : W6.cell? ⟨w.heap.size + 1, 0, none⟩ = some (.int .i64 1) := (blk_cell HM.out.2.1 0).trans rfl
  have hm0 : W6.cell? ⟨W5.heap.size, 0, none⟩ = some (.int .i64 0) := (blk_cell hr9 0).trans rfl
  have hm1 : W6.cell? ⟨W5.heap.size, 1, none⟩ = some (.int .i64 s1) := (blk_cell hr9 1).trans rfl
  have hy0 : W6.cell? ⟨W5.heap.size + 1, 0, none⟩ = some (.bool true) := (blk_cell hr10 0).trans rfl
  have hy1 : W6.cell? ⟨W5.heap.size + 1, 1, none⟩ = some (.bool false) := (blk_cell hr10 1).trans rfl
  have hy2 : W6.cell? ⟨W5.heap.size + 1, 2, none⟩ = some (.bool true) := (blk_cell hr10 2).trans rfl
  have hy3 : W6.cell? ⟨W5.heap.size + 1, 3, none⟩ = some (.bool false) := (blk_cell hr10 3).trans rfl
  clear hW6 hsz6 HG hb6
  have HAL := Aside0.mk (ledger_all.calls kf A0 c0 l0 false W6 (Kd.C_below H0.out HM.out.2.2.2.1) HCP.out hall)
  have HR9 := Aside0.mk hr9
  clear hall hr9 hr10
  go_wp2_with (go_at_call 40; go_must (refine HAL.out.mono ?_; rintro e_ W7 ⟨rfl, hB7⟩; have HM7 := Aside0.mk (show bookAt W7 w.heap.size t _ _ false ∧ W7.heap[w.heap.size + 1]? = some (.cells #[.int .i64 1, .int .i64 b] 29 (0, 0)) ∧ W7.heap[w.heap.size + 1 + 1]? = some (.cells #[.int .i64 0, .slice none 0 0, .slice none 0 0, .bool false] 24 (0, 0)) ∧ Below w.heap.size w W7 ∧ w.heap.size + 3 ≤ W7.heap.size from ⟨HM.out.1.below hB7 HM.out.1.lt, (hB7.block _ (by have := HM.out.2.2.2.2; have := HSZ.out; omega)).trans HM.out.2.1, (hB7.block _ (by have := HM.out.2.2.2.2; have := HSZ.out; omega)).trans HM.out.2.2.1, below_step HM.out.2.2.2.1 hB7, by have := hB7.size; have := HM.out.2.2.2.2; have := HSZ.out; omega⟩); have hr9 := (hB7.block _ (by have := HSZ.out; omega)).trans HR9.out; have hm0 : W7.cell? ⟨W5.heap.size, 0, none⟩ = some (.int .i64 0) := (blk_cell hr9 0).trans rfl; have hm1 : W7.cell? ⟨W5.heap.size, 1, none⟩ = some (.int .i64 s1) := (blk_cell hr9 1).trans rfl; clear hB7 HM HAL hr9 HR9; have hc0 : W7.cell? ⟨w.heap.size + 1 + 1, 0, none⟩ = some (.int .i64 0) := (blk_cell HM7.out.2.2.1 0).trans rfl; have hc1 : W7.cell? ⟨w.heap.size + 1 + 1, 1, none⟩ = some (.slice none 0 0) := (blk_cell HM7.out.2.2.1 1).trans rfl; have hc2 : W7.cell? ⟨w.heap.size + 1 + 1, 2, none⟩ = some (.slice none 0 0) := (blk_cell HM7.out.2.2.1 2).trans rfl; have hc3 : W7.cell? ⟨w.heap.size + 1 + 1, 3, none⟩ = some (.bool false) := (blk_cell HM7.out.2.2.1 3).trans rfl; have hf0 : W7.frozen? ⟨w.heap.size + 1 + 1, 0, none⟩ = false := frozen_of_row _ _ _ _ _ HM7.out.2.2.1; have hf1 : W7.frozen? ⟨w.heap.size + 1 + 1, 1, none⟩ = false := frozen_of_row _ _ _ _ _ HM7.out.2.2.1; have hf2 : W7.frozen? ⟨w.heap.size + 1 + 1, 2, none⟩ = false := frozen_of_row _ _ _ _ _ HM7.out.2.2.1; have hf3 : W7.frozen? ⟨w.heap.size + 1 + 1, 3, none⟩ = false := frozen_of_row _ _ _ _ _ HM7.out.2.2.1))
  refine bodyPost_ret (results_list (rs := [.cell 4 24, .tmp 5, .tmp 6, .tmp 7]) rfl (by simp) (.cell (w.heap.size + 1 + 1) 24 #[.int .i64 0, .slice none 0 0, .slice none 0 0, .bool false] (0, 0) _ rfl (by refine blk_put (cs := #[.int .i64 0, .slice none 0 0, .slice none 0 0, .bool false]) ?_ 3 _ rfl; refine blk_put (cs := #[.int .i64 0, .slice none 0 0, .slice none 0 0, .bool false]) ?_ 2 _ rfl; refine blk_put (cs := #[.int .i64 0, .slice none 0 0, .slice none 0 0, .bool false]) ?_ 1 _ rfl; refine blk_put (cs := #[.int .i64 0, .slice none 0 0, .slice none 0 0, .bool false]) ?_ 0 _ rfl; exact HM7.out.2.2.1) Tryd.underlying24 rfl (by kernel_rfl) (.tmp (.tmp (.tmp .nil))))) rfl ?_
  exact ⟨rfl, (((HM7.out.2.2.2.1.setCell (by simp; omega) _).setCell (by simp; omega) _).setCell (by simp; omega) _).setCell (by simp; omega) _⟩

set_option maxHeartbeats 4000000 in
set_option maxRecDepth 100000 in
theorem begin_notall2_red (t : Int) (A0 : Option Addr) (c0 : Nat) (l0 : List S38) (A1 : Option Addr) (c1 : Nat) (l1 : List S38) (b : Nat) (w : World)
    (h0 : Kd.C k38 w A0 l0.length l0) (hcap0 : l0.length ≤ c0) (h1 : Kd.C k38 w A1 l1.length l1) (hl0 : l0.length ≤ 6000000000000) (hl1 : l1.length ≤ 6000000000000) (hT : Tab w) (he : knownP t l0 l1 false [⟨1, b⟩] = 0) (hb : b < l1.length) (hst : (rd_T38 l1 (b : Int)).f0 = 2) (kf : Nat) (hall : ledger_all.f kf l0 = some false) :
    Calls Tryd.prog 28 #[.agg #[.int .i64 t, .slice A0 l0.length c0, .slice A1 l1.length c1, .bool false], .agg #[.int .i64 1, .int .i64 b]] w fun e_ w' => e_ = .returned (.tuple #[.agg #[.int .i64 0, .slice none 0 0, .slice none 0 0, .bool false], .int .i64 0, .bool false, .int .i64 192]) ∧ Below w.heap.size w w' := by
  have hl3 := lays3_of w t (.slice A0 l0.length c0) (.slice A1 l1.length c1) false 1 b
  have hba : Below w.heap.size w ((w3of w t (.slice A0 l0.length c0) (.slice A1 l1.length c1) false 1 b).alloc (.cells #[.int .i64 1, .int .i64 b] 29)) := below_alloc hl3.q0 _
  have hkn := known_any t false A0 c0 l0 A1 c1 l1 (some ⟨(w3of w t (.slice A0 l0.length c0) (.slice A1 l1.length c1) false 1 b).heap.size, 0, none⟩) 1 [⟨1, b⟩] ((w3of w t (.slice A0 l0.length c0) (.slice A1 l1.length c1) false 1 b).alloc (.cells #[.int .i64 1, .int .i64 b] 29)) (Kd.C_below h0 hba) (Kd.C_below h1 hba) (C_one (w3of w t (.slice A0 l0.length c0) (.slice A1 l1.length c1) false 1 b) 1 b) (by simp) hl0 hl1 (hT.below hba)
  rw [he] at hkn
  have H0 := Aside0.mk h0
  have H1 := Aside0.mk h1
  have HCP := Aside0.mk hcap0
  obtain ⟨W3, hW3⟩ : ∃ W3, (w3of w t (.slice A0 l0.length c0) (.slice A1 l1.length c1) false 1 b) = W3 := ⟨_, rfl⟩
  rw [hW3] at hl3 hba hkn
  unfold w3of at hW3
  have HW3 := Aside0.mk hW3
  have HL := Aside0.mk hl3
  have HKN := Aside0.mk hkn
  have ha := below_alloc (Below.refl W3.heap.size W3) (.cells #[.int .i64 1, .int .i64 b] 29)
  have HBA := Aside0.mk ha
  clear hba hkn h0 h1 he hl3 hT hl0 hl1 ha hW3 hcap0
  have hu22 := Tryd.underlying22
  have hu29 := Tryd.underlying29
  have hu24 := Tryd.underlying24
  have hu38 := Tryd.underlying38
  have hu26 := Tryd.underlying26
  have hu85 := Tryd.underlying85
  have hz0 := HL.out.q2.c0
  have hz1 := HL.out.q2.c1
  have hz2 := HL.out.q2.c2
  have hz3 := HL.out.q2.c3
  have hy0 : W3.cell? ⟨w.heap.size + 1, 0, none⟩ = some (.int .i64 1) := (blk_cell HL.out.q3 0).trans rfl
  have hy1 : W3.cell? ⟨w.heap.size + 1, 1, none⟩ = some (.int .i64 b) := (blk_cell HL.out.q3 1).trans rfl
  obtain ⟨ad, ea, hx0, hx1, hx2⟩ := at_T38 H1.out (b : Int) (by omega) (by omega)
  subst ea
  rw [Int.toNat_natCast] at hx0 hx1 hx2
  obtain ⟨⟨sa, s1, s2⟩, hs⟩ : ∃ s, rd_T38 l1 (b : Int) = s := ⟨_, rfl⟩
  rw [hs] at hx0 hx1 hx2 hst
  dsimp only at *
  subst hst
  have HX := Aside0.mk (And.intro hx0 (And.intro hx1 hx2))
  have HS := Aside0.mk hs
  have HBI := Aside0.mk hb
  clear hx0 hx1 hx2 hs hb
  go_enter Tryd.func28, Tryd.ntmps28
  go_upto_region 1 with (fail)
  rw [HW3.out]
  clear HW3
  go_upto_region 6 with (first | (go_at_call 54; go_must (refine HKN.out.mono ?_; rintro e_ W4 ⟨rfl, hB4⟩; have HF := Aside0.mk (HL.out.below (below_step HBA.out hB4)); clear hB4 HL HKN HBA hz0 hz1 hz2 hz3 hy0 hy1; have hv0 : W4.cell? ⟨w.heap.size + 1, 0, none⟩ = some (.int .i64 1) := (blk_cell HF.out.2.1 0).trans rfl; have hv1 : W4.cell? ⟨w.heap.size + 1, 1, none⟩ = some (.int .i64 b) := (blk_cell HF.out.2.1 1).trans rfl)) | (go_at_call 55; go_must (refine (state_red W4 w.heap.size t ad _ _ _ false b HF.out.1 (by omega) (by have := HBI.out; omega)).mono ?_; rintro e_ W5 ⟨rfl, hB5⟩; have HG := Aside0.mk (show bookAt W5 w.heap.size t _ _ false ∧ W5.heap[w.heap.size + 1]? = some (.cells #[.int .i64 1, .int .i64 b] 29 (0, 0)) ∧ W5.heap[w.heap.size + 1 + 1]? = some (.cells #[.int .i64 0, .slice none 0 0, .slice none 0 0, .bool false] 24 (0, 0)) ∧ Below w.heap.size w W5 ∧ w.heap.size + 3 ≤ W5.heap.size from ⟨HF.out.1.below hB5 HF.out.1.lt, (hB5.block _ (by have := HF.out.2.2.2.2; omega)).trans HF.out.2.1, (hB5.block _ (by have := HF.out.2.2.2.2; omega)).trans HF.out.2.2.1, below_step HF.out.2.2.2.1 hB5, by have := hB5.size; have := HF.out.2.2.2.2; omega⟩); clear hB5 HF hv0 hv1; have hx0 := (HG.out.2.2.2.1.cell (World.block_lt_of_cell? w _ HX.out.1)).trans HX.out.1; have hx1 := (HG.out.2.2.2.1.cell (World.block_lt_of_cell? w _ HX.out.2.1)).trans HX.out.2.1; have hx2 := (HG.out.2.2.2.1.cell (World.block_lt_of_cell? w _ HX.out.2.2)).trans HX.out.2.2)))
  clear hx0 hx1 hx2
  obtain ⟨W6, hW6⟩ : ∃ W6, W6 = (W5.alloc (.cells #[.int .i64 2, .int .i64 s1, .int .i64 s2] 38)).alloc (.cells #[.bool true, .bool false, .bool true, .bool false] 85) := ⟨_, rfl⟩
  rw [← hW6]
  have hb6 : Below W5.heap.size W5 W6 := by rw [hW6]; exact below_alloc (below_alloc (Below.refl _ _) _) _
  have hsz6 : W6.heap.size = W5.heap.size + 1 + 1 := by rw [hW6]; simp
  have hr9 : W6.heap[W5.heap.size]? = some (.cells #[.int .i64 2, .int .i64 s1, .int .i64 s2] 38 (0, 0)) := by
    rw [hW6]
    exact ((below_alloc (Below.refl _ _) _).block W5.heap.size (by simp)).trans (heap_alloc_new W5 _)
  have hr10 : W6.heap[W5.heap.size + 1]? = some (.cells #[.bool true, .bool false, .bool true, .bool false] 85 (0, 0)) := by
    have e1 := heap_alloc_new (W5.alloc (.cells #[.int .i64 2, .int .i64 s1, .int .i64 s2] 38)) (.cells #[.bool true, .bool false, .bool true, .bool false] 85)
    rw [show (W5.alloc (.cells #[.int .i64 2, .int .i64 s1, .int .i64 s2] 38)).heap.size = W5.heap.size + 1 from by simp] at e1
    rw [hW6]
    exact e1
  have HM := Aside0.mk (show bookAt W6 w.heap.size t _ _ false ∧ W6.heap[w.heap.size + 1]? = some (.cells #[.int .i64 1, .int .i64 b] 29 (0, 0)) ∧ W6.heap[w.heap.size + 1 + 1]? = some (.cells #[.int .i64 0, .slice none 0 0, .slice none 0 0, .bool false] 24 (0, 0)) ∧ Below w.heap.size w W6 ∧ w.heap.size + 3 ≤ W5.heap.size from ⟨HG.out.1.below hb6 HG.out.1.lt, (hb6.block _ (by have := HG.out.2.2.2.2; omega)).trans HG.out.2.1, (hb6.block _ (by have := HG.out.2.2.2.2; omega)).trans HG.out.2.2.1, below_step HG.out.2.2.2.1 hb6, HG.out.2.2.2.2⟩)
  have HSZ := Aside0.mk hsz6
  have hz3 := HM.out.1.c3
  have hz1 := HM.out.1.c1
  have ht0 : W6.cell? ⟨w.heap.size + 1, 0, none⟩ = some (.int .i64 1) := (blk_cell HM.out.2.1 0).trans rfl
  have hm0 : W6.cell? ⟨W5.heap.size, 0, none⟩ = some (.int .i64 2) := (blk_cell hr9 0).trans rfl
  have hm1 : W6.cell? ⟨W5.heap.size, 1, none⟩ = some (.int .i64 s1) := (blk_cell hr9 1).trans rfl
  have hy0 : W6.cell? ⟨W5.heap.size + 1, 0, none⟩ = some (.bool true) := (blk_cell hr10 0).trans rfl
  have hy1 : W6.cell? ⟨W5.heap.size + 1, 1, none⟩ = some (.bool false) := (blk_cell hr10 1).trans rfl
  have hy2 : W6.cell? ⟨W5.heap.size + 1, 2, none⟩ = some (.bool true) := (blk_cell hr10 2).trans rfl
  have hy3 : W6.cell? ⟨W5.heap.size + 1, 3, none⟩ = some (.bool false) := (blk_cell hr10 3).trans rfl
  clear hW6 hsz6 HG hb6
  have HAL := Aside0.mk (ledger_all.calls kf A0 c0 l0 false W6 (Kd.C_below H0.out HM.out.2.2.2.1) HCP.out hall)
  have HR9 := Aside0.mk hr9
  clear hall hr9 hr10
  go_wp2_with (go_at_call 40; go_must (refine HAL.out.mono ?_; rintro e_ W7 ⟨rfl, hB7⟩; have HM7 := Aside0.mk (show bookAt W7 w.heap.size t _ _ false ∧ W7.heap[w.heap.size + 1]? = some (.cells #[.int .i64 1, .int .i64 b] 29 (0, 0)) ∧ W7.heap[w.heap.size + 1 + 1]? = some (.cells #[.int .i64 0, .slice none 0 0, .slice none 0 0, .bool false] 24 (0, 0)) ∧ Below w.heap.size w W7 ∧ w.heap.size + 3 ≤ W7.heap.size from ⟨HM.out.1.below hB7 HM.out.1.lt, (hB7.block _ (by have := HM.out.2.2.2.2; have := HSZ.out; omega)).trans HM.out.2.1, (hB7.block _ (by have := HM.out.2.2.2.2; have := HSZ.out; omega)).trans HM.out.2.2.1, below_step HM.out.2.2.2.1 hB7, by have := hB7.size; have := HM.out.2.2.2.2; have := HSZ.out; omega⟩); have hr9 := (hB7.block _ (by have := HSZ.out; omega)).trans HR9.out; have hm0 : W7.cell? ⟨W5.heap.size, 0, none⟩ = some (.int .i64 2) := (blk_cell hr9 0).trans rfl; have hm1 : W7.cell? ⟨W5.heap.size, 1, none⟩ = some (.int .i64 s1) := (blk_cell hr9 1).trans rfl; clear hB7 HM HAL hr9 HR9; have hc0 : W7.cell? ⟨w.heap.size + 1 + 1, 0, none⟩ = some (.int .i64 0) := (blk_cell HM7.out.2.2.1 0).trans rfl; have hc1 : W7.cell? ⟨w.heap.size + 1 + 1, 1, none⟩ = some (.slice none 0 0) := (blk_cell HM7.out.2.2.1 1).trans rfl; have hc2 : W7.cell? ⟨w.heap.size + 1 + 1, 2, none⟩ = some (.slice none 0 0) := (blk_cell HM7.out.2.2.1 2).trans rfl; have hc3 : W7.cell? ⟨w.heap.size + 1 + 1, 3, none⟩ = some (.bool false) := (blk_cell HM7.out.2.2.1 3).trans rfl; have hf0 : W7.frozen? ⟨w.heap.size + 1 + 1, 0, none⟩ = false := frozen_of_row _ _ _ _ _ HM7.out.2.2.1; have hf1 : W7.frozen? ⟨w.heap.size + 1 + 1, 1, none⟩ = false := frozen_of_row _ _ _ _ _ HM7.out.2.2.1; have hf2 : W7.frozen? ⟨w.heap.size + 1 + 1, 2, none⟩ = false := frozen_of_row _ _ _ _ _ HM7.out.2.2.1; have hf3 : W7.frozen? ⟨w.heap.size + 1 + 1, 3, none⟩ = false := frozen_of_row _ _ _ _ _ HM7.out.2.2.1))
  refine bodyPost_ret (results_list (rs := [.cell 4 24, .tmp 5, .tmp 6, .tmp 7]) rfl (by simp) (.cell (w.heap.size + 1 + 1) 24 #[.int .i64 0, .slice none 0 0, .slice none 0 0, .bool false] (0, 0) _ rfl (by refine blk_put (cs := #[.int .i64 0, .slice none 0 0, .slice none 0 0, .bool false]) ?_ 3 _ rfl; refine blk_put (cs := #[.int .i64 0, .slice none 0 0, .slice none 0 0, .bool false]) ?_ 2 _ rfl; refine blk_put (cs := #[.int .i64 0, .slice none 0 0, .slice none 0 0, .bool false]) ?_ 1 _ rfl; refine blk_put (cs := #[.int .i64 0, .slice none 0 0, .slice none 0 0, .bool false]) ?_ 0 _ rfl; exact HM7.out.2.2.1) Tryd.underlying24 rfl (by kernel_rfl) (.tmp (.tmp (.tmp .nil))))) rfl ?_
  exact ⟨rfl, (((HM7.out.2.2.2.1.setCell (by simp; omega) _).setCell (by simp; omega) _).setCell (by simp; omega) _).setCell (by simp; omega) _⟩

set_option maxHeartbeats 4000000 in
set_option maxRecDepth 100000 in
theorem begin_fresh_red (t : Int) (A0 : Option Addr) (c0 : Nat) (l0 : List S38) (A1 : Option Addr) (c1 : Nat) (l1 : List S38) (b : Nat) (w : World)
    (h0 : Kd.C k38 w A0 l0.length l0) (hcap0 : l0.length ≤ c0) (h1 : Kd.C k38 w A1 l1.length l1) (hl0 : l0.length ≤ 6000000000000) (hl1 : l1.length ≤ 6000000000000) (hT : Tab w) (he : knownP t l0 l1 false [⟨1, b⟩] = 0) (hb : b < l1.length) (hst : (rd_T38 l1 (b : Int)).f0 = 0) (kf : Nat) (hall : ledger_all.f kf l0 = some true) (hl0' : l0.length ≤ 100000) (hl1' : l1.length ≤ 100000) (hsm : 0 ≤ (rd_T38 l1 (b : Int)).f1 ∧ (rd_T38 l1 (b : Int)).f1 ≤ 1000) :
    Calls Tryd.prog 28 #[.agg #[.int .i64 t, .slice A0 l0.length c0, .slice A1 l1.length c1, .bool false], .agg #[.int .i64 1, .int .i64 b]] w fun e_ w' => ∃ v1 v2 : Value, e_ = .returned (.tuple #[.agg #[.int .i64 t, v1, v2, .bool false], .int .i64 ((rd_T38 l1 (b : Int)).f1 + 1), .bool true, .int .i64 0]) ∧ Kd.R k38 38 w' w.heap.size (fun k => some k ≠ v2.ownBlock) v1 l0 ∧ Kd.R k38 38 w' w.heap.size (fun k => some k ≠ v1.ownBlock) v2 (l1.set b ⟨1, (rd_T38 l1 (b : Int)).f1 + 1, (rd_T38 l1 (b : Int)).f2⟩) ∧ Below w.heap.size w w' := by
  have hl3 := lays3_of w t (.slice A0 l0.length c0) (.slice A1 l1.length c1) false 1 b
  have hba : Below w.heap.size w ((w3of w t (.slice A0 l0.length c0) (.slice A1 l1.length c1) false 1 b).alloc (.cells #[.int .i64 1, .int .i64 b] 29)) := below_alloc hl3.q0 _
  have hkn := known_any t false A0 c0 l0 A1 c1 l1 (some ⟨(w3of w t (.slice A0 l0.length c0) (.slice A1 l1.length c1) false 1 b).heap.size, 0, none⟩) 1 [⟨1, b⟩] ((w3of w t (.slice A0 l0.length c0) (.slice A1 l1.length c1) false 1 b).alloc (.cells #[.int .i64 1, .int .i64 b] 29)) (Kd.C_below h0 hba) (Kd.C_below h1 hba) (C_one (w3of w t (.slice A0 l0.length c0) (.slice A1 l1.length c1) false 1 b) 1 b) (by simp) hl0 hl1 (hT.below hba)
  rw [he] at hkn
  have H0 := Aside0.mk h0
  have H1 := Aside0.mk h1
  have HCP := Aside0.mk hcap0
  obtain ⟨W3, hW3⟩ : ∃ W3, (w3of w t (.slice A0 l0.length c0) (.slice A1 l1.length c1) false 1 b) = W3 := ⟨_, rfl⟩
  rw [hW3] at hl3 hba hkn
  unfold w3of at hW3
  have HW3 := Aside0.mk hW3
  have HL := Aside0.mk hl3
  have HKN := Aside0.mk hkn
  have ha := below_alloc (Below.refl W3.heap.size W3) (.cells #[.int .i64 1, .int .i64 b] 29)
  have HBA := Aside0.mk ha
  clear hba hkn h0 h1 he hl3 hT hl0 hl1 ha hW3 hcap0
  have hu22 := Tryd.underlying22
  have hu29 := Tryd.underlying29
  have hu24 := Tryd.underlying24
  have hu38 := Tryd.underlying38
  have hu26 := Tryd.underlying26
  have hu85 := Tryd.underlying85
  have hz0 := HL.out.q2.c0
  have hz1 := HL.out.q2.c1
  have hz2 := HL.out.q2.c2
  have hz3 := HL.out.q2.c3
  have hy0 : W3.cell? ⟨w.heap.size + 1, 0, none⟩ = some (.int .i64 1) := (blk_cell HL.out.q3 0).trans rfl
  have hy1 : W3.cell? ⟨w.heap.size + 1, 1, none⟩ = some (.int .i64 b) := (blk_cell HL.out.q3 1).trans rfl
  obtain ⟨ad, ea, hx0, hx1, hx2⟩ := at_T38 H1.out (b : Int) (by omega) (by omega)
  subst ea
  rw [Int.toNat_natCast] at hx0 hx1 hx2
  obtain ⟨⟨sa, s1, s2⟩, hs⟩ : ∃ s, rd_T38 l1 (b : Int) = s := ⟨_, rfl⟩
  rw [hs] at hx0 hx1 hx2 hst
  rw [hs] at hsm
  rw [hs]
  dsimp only at *
  subst hst
  have HX := Aside0.mk (And.intro hx0 (And.intro hx1 hx2))
  have HS := Aside0.mk hs
  have HBI := Aside0.mk hb
  clear hx0 hx1 hx2 hs hb
  have hwr : IntKind.i64.wrap (s1 + 1) = s1 + 1 := by rw [i64_w]; unfold wrap64; omega
  clear hsm
  go_enter Tryd.func28, Tryd.ntmps28
  go_upto_region 1 with (fail)
  rw [HW3.out]
  clear HW3
  go_upto_region 6 with (first | (go_at_call 54; go_must (refine HKN.out.mono ?_; rintro e_ W4 ⟨rfl, hB4⟩; have HF := Aside0.mk (HL.out.below (below_step HBA.out hB4)); clear hB4 HL HKN HBA hz0 hz1 hz2 hz3 hy0 hy1; have hv0 : W4.cell? ⟨w.heap.size + 1, 0, none⟩ = some (.int .i64 1) := (blk_cell HF.out.2.1 0).trans rfl; have hv1 : W4.cell? ⟨w.heap.size + 1, 1, none⟩ = some (.int .i64 b) := (blk_cell HF.out.2.1 1).trans rfl)) | (go_at_call 55; go_must (refine (state_red W4 w.heap.size t ad _ _ _ false b HF.out.1 (by omega) (by have := HBI.out; omega)).mono ?_; rintro e_ W5 ⟨rfl, hB5⟩; have HG := Aside0.mk (show bookAt W5 w.heap.size t _ _ false ∧ W5.heap[w.heap.size + 1]? = some (.cells #[.int .i64 1, .int .i64 b] 29 (0, 0)) ∧ W5.heap[w.heap.size + 1 + 1]? = some (.cells #[.int .i64 0, .slice none 0 0, .slice none 0 0, .bool false] 24 (0, 0)) ∧ Below w.heap.size w W5 ∧ w.heap.size + 3 ≤ W5.heap.size from ⟨HF.out.1.below hB5 HF.out.1.lt, (hB5.block _ (by have := HF.out.2.2.2.2; omega)).trans HF.out.2.1, (hB5.block _ (by have := HF.out.2.2.2.2; omega)).trans HF.out.2.2.1, below_step HF.out.2.2.2.1 hB5, by have := hB5.size; have := HF.out.2.2.2.2; omega⟩); clear hB5 HF hv0 hv1; have hx0 := (HG.out.2.2.2.1.cell (World.block_lt_of_cell? w _ HX.out.1)).trans HX.out.1; have hx1 := (HG.out.2.2.2.1.cell (World.block_lt_of_cell? w _ HX.out.2.1)).trans HX.out.2.1; have hx2 := (HG.out.2.2.2.1.cell (World.block_lt_of_cell? w _ HX.out.2.2)).trans HX.out.2.2)))
  clear hx0 hx1 hx2
  obtain ⟨W6, hW6⟩ : ∃ W6, W6 = (W5.alloc (.cells #[.int .i64 0, .int .i64 s1, .int .i64 s2] 38)).alloc (.cells #[.bool true, .bool false, .bool true, .bool false] 85) := ⟨_, rfl⟩
  rw [← hW6]
  have hb6 : Below W5.heap.size W5 W6 := by rw [hW6]; exact below_alloc (below_alloc (Below.refl _ _) _) _
  have hsz6 : W6.heap.size = W5.heap.size + 1 + 1 := by rw [hW6]; simp
  have hr9 : W6.heap[W5.heap.size]? = some (.cells #[.int .i64 0, .int .i64 s1, .int .i64 s2] 38 (0, 0)) := by
    rw [hW6]
    exact ((below_alloc (Below.refl _ _) _).block W5.heap.size (by simp)).trans (heap_alloc_new W5 _)
  have hr10 : W6.heap[W5.heap.size + 1]? = some (.cells #[.bool true, .bool false, .bool true, .bool false] 85 (0, 0)) := by
    have e1 := heap_alloc_new (W5.alloc (.cells #[.int .i64 0, .int .i64 s1, .int .i64 s2] 38)) (.cells #[.bool true, .bool false, .bool true, .bool false] 85)
    rw [show (W5.alloc (.cells #[.int .i64 0, .int .i64 s1, .int .i64 s2] 38)).heap.size = W5.heap.size + 1 from by simp] at e1
    rw [hW6]
    exact e1
  have HM := Aside0.mk (show bookAt W6 w.heap.size t _ _ false ∧ W6.heap[w.heap.size + 1]? = some (.cells #[.int .i64 1, .int .i64 b] 29 (0, 0)) ∧ W6.heap[w.heap.size + 1 + 1]? = some (.cells #[.int .i64 0, .slice none 0 0, .slice none 0 0, .bool false] 24 (0, 0)) ∧ Below w.heap.size w W6 ∧ w.heap.size + 3 ≤ W5.heap.size from ⟨HG.out.1.below hb6 HG.out.1.lt, (hb6.block _ (by have := HG.out.2.2.2.2; omega)).trans HG.out.2.1, (hb6.block _ (by have := HG.out.2.2.2.2; omega)).trans HG.out.2.2.1, below_step HG.out.2.2.2.1 hb6, HG.out.2.2.2.2⟩)
  have HSZ := Aside0.mk hsz6
  have hz3 := HM.out.1.c3
  have hz1 := HM.out.1.c1
  have ht0 : W6.cell? ⟨w.heap.size + 1, 0, none⟩ = some (.int .i64 1) := (blk_cell HM.out.2.1 0).trans rfl
  have hm0 : W6.cell? ⟨W5.heap.size, 0, none⟩ = some (.int .i64 0) := (blk_cell hr9 0).trans rfl
  have hm1 : W6.cell? ⟨W5.heap.size, 1, none⟩ = some (.int .i64 s1) := (blk_cell hr9 1).trans rfl
  have hy0 : W6.cell? ⟨W5.heap.size + 1, 0, none⟩ = some (.bool true) := (blk_cell hr10 0).trans rfl
  have hy1 : W6.cell? ⟨W5.heap.size + 1, 1, none⟩ = some (.bool false) := (blk_cell hr10 1).trans rfl
  have hy2 : W6.cell? ⟨W5.heap.size + 1, 2, none⟩ = some (.bool true) := (blk_cell hr10 2).trans rfl
  have hy3 : W6.cell? ⟨W5.heap.size + 1, 3, none⟩ = some (.bool false) := (blk_cell hr10 3).trans rfl
  clear hW6 hsz6 HG hb6
  have HAL := Aside0.mk (ledger_all.calls kf A0 c0 l0 true W6 (Kd.C_below H0.out HM.out.2.2.2.1) HCP.out hall)
  have HR9 := Aside0.mk hr9
  clear hall hr9 hr10
  go_upto_region 12 with (go_at_call 40; go_must (refine HAL.out.mono ?_; rintro e_ W7 ⟨rfl, hB7⟩; have HM7 := Aside0.mk (show bookAt W7 w.heap.size t _ _ false ∧ W7.heap[w.heap.size + 1]? = some (.cells #[.int .i64 1, .int .i64 b] 29 (0, 0)) ∧ W7.heap[w.heap.size + 1 + 1]? = some (.cells #[.int .i64 0, .slice none 0 0, .slice none 0 0, .bool false] 24 (0, 0)) ∧ Below w.heap.size w W7 ∧ w.heap.size + 3 ≤ W7.heap.size from ⟨HM.out.1.below hB7 HM.out.1.lt, (hB7.block _ (by have := HM.out.2.2.2.2; have := HSZ.out; omega)).trans HM.out.2.1, (hB7.block _ (by have := HM.out.2.2.2.2; have := HSZ.out; omega)).trans HM.out.2.2.1, below_step HM.out.2.2.2.1 hB7, by have := hB7.size; have := HM.out.2.2.2.2; have := HSZ.out; omega⟩); have hr9 := (hB7.block _ (by have := HSZ.out; omega)).trans HR9.out; have hm0 : W7.cell? ⟨W5.heap.size, 0, none⟩ = some (.int .i64 0) := (blk_cell hr9 0).trans rfl; have hm1 : W7.cell? ⟨W5.heap.size, 1, none⟩ = some (.int .i64 s1) := (blk_cell hr9 1).trans rfl; clear hB7 HM HAL hr9 HR9))
  obtain ⟨gn, hgn⟩ : ∃ gn, W7.heap.size = gn := ⟨_, rfl⟩
  have hb8 : Below W7.heap.size W7 (W7.alloc (.cells #[.int .i64 (s1 + 1)] 3)) := below_alloc (Below.refl _ _) _
  have hn8 : (W7.alloc (.cells #[.int .i64 (s1 + 1)] 3)).cell? ⟨W7.heap.size, 0, none⟩ = some (.int .i64 (s1 + 1)) := (blk_cell (heap_alloc_new W7 _) 0).trans rfl
  have hs8 : (W7.alloc (.cells #[.int .i64 (s1 + 1)] 3)).heap.size = W7.heap.size + 1 := by simp
  obtain ⟨W8, hW8⟩ : ∃ W8, W8 = W7.alloc (.cells #[.int .i64 (s1 + 1)] 3) := ⟨_, rfl⟩
  rw [← hW8] at hb8 hn8 hs8 ⊢
  rw [hgn] at hn8 hs8 ⊢
  have HN := Aside0.mk (show bookAt W8 w.heap.size t _ _ false ∧ W8.heap[w.heap.size + 1]? = some (.cells #[.int .i64 1, .int .i64 b] 29 (0, 0)) ∧ W8.heap[w.heap.size + 1 + 1]? = some (.cells #[.int .i64 0, .slice none 0 0, .slice none 0 0, .bool false] 24 (0, 0)) ∧ Below w.heap.size w W8 ∧ w.heap.size + 3 ≤ gn ∧ W8.heap.size = gn + 1 from ⟨HM7.out.1.below hb8 HM7.out.1.lt, (hb8.block _ (by have := HM7.out.2.2.2.2; omega)).trans HM7.out.2.1, (hb8.block _ (by have := HM7.out.2.2.2.2; omega)).trans HM7.out.2.2.1, below_step HM7.out.2.2.2.1 hb8, by have := HM7.out.2.2.2.2; omega, hs8⟩)
  have hsr := HS.out
  have hch := changed_red 57 #[.pointer (some ⟨gn, 0, none⟩)] (enters_of Tryd.func57 (by kernel_rfl) rfl) t false A0 c0 l0 (some ad) c1 l1 b ⟨1, (s1 + 1), s2⟩ false W8.drew (Kd.C_below (Kd.C_below H0.out HN.out.2.2.2.1) (below_drew1 (Below.refl _ _))) (Kd.C_below (Kd.C_below H1.out HN.out.2.2.2.1) (below_drew1 (Below.refl _ _))) hl0' hl1' HBI.out
    (fun W gb gs off u0 u1 g1 g2 g3 g4 g5 => by
      rw [hsr] at g2
      have hn : W.cell? ⟨gn, 0, none⟩ = some (.int .i64 (s1 + 1)) := (g5.cell (show gn < W8.drew.heap.size by show gn < W8.heap.size; omega)).trans hn8
      exact do_begin W gb gs off gn (s1 + 1) t u0 u1 false ⟨0, s1, s2⟩ g1 g2 g3 hn (by have : W8.heap.size ≤ gs := g4; omega))
  have HCH := Aside0.mk hch
  clear hch hsr hW8 hb8 hs8 hm0 hm1 hz3 hz1 ht0 hy0 hy1 hy2 hy3 hgn hl0' hl1'
  have hz0 := HN.out.1.c0
  have hz1 := HN.out.1.c1
  have hz2 := HN.out.1.c2
  have hz3 := HN.out.1.c3
  have hy0 : W8.cell? ⟨w.heap.size + 1, 0, none⟩ = some (.int .i64 1) := (blk_cell HN.out.2.1 0).trans rfl
  have hy1 : W8.cell? ⟨w.heap.size + 1, 1, none⟩ = some (.int .i64 b) := (blk_cell HN.out.2.1 1).trans rfl
  have hmf : ∀ (fn : Fn) (first cap : Array Value) (w : World), (Instr.makeFunc fn first cap).run Tryd.prog w = .ok (.func fn first cap) w := fun _ _ _ _ => rfl
  have HN8 := Aside0.mk hn8
  go_region_held3 (fun w' => w'.cell? ⟨w.heap.size, 0, none⟩ = some (.int .i64 t) ∧ w'.cell? ⟨w.heap.size, 1, none⟩ = some (.slice A0 l0.length c0) ∧ w'.cell? ⟨w.heap.size, 2, none⟩ = some (.slice (some ad) l1.length c1) ∧ w'.cell? ⟨w.heap.size, 3, none⟩ = some (.bool false) ∧ w'.cell? ⟨w.heap.size + 1, 0, none⟩ = some (.int .i64 1) ∧ w'.cell? ⟨w.heap.size + 1, 1, none⟩ = some (.int .i64 b) ∧ w'.cell? ⟨gn, 0, none⟩ = some (.int .i64 (s1 + 1))) (first | exact HS9.out | go_keep) ((go_at_call 56; go_must (refine HCH.out.mono ?_; rintro e_ W9 ⟨v1, v2, rfl, hr1, hr2, hB9⟩; have HK := Aside0.mk (hB9.size); have HR1 := Aside0.mk (Kd.R_mono (Kd.R_bound hr1) (fun k hk => (⟨hk.1, hk.2.1⟩ : _ ∧ W8.heap.size ≤ k))); have HR2 := Aside0.mk (Kd.R_mono (Kd.R_bound hr2) (fun k hk => (⟨hk.1, hk.2.1⟩ : _ ∧ W8.heap.size ≤ k))); have HB9 := Aside0.mk (below_step (below_drew1 HN.out.2.2.2.1) hB9); have HZ9 := Aside0.mk (show W9.heap[w.heap.size + 1 + 1]? = some (.cells #[.int .i64 0, .slice none 0 0, .slice none 0 0, .bool false] 24 (0, 0)) from (hB9.block _ (show w.heap.size + 1 + 1 < W8.heap.size by have := HN.out.2.2.2.2; omega)).trans HN.out.2.2.1); have j0 := (hB9.cell (show w.heap.size < W8.heap.size from HN.out.1.lt)).trans hz0; have j1 := (hB9.cell (show w.heap.size < W8.heap.size from HN.out.1.lt)).trans hz1; have j2 := (hB9.cell (show w.heap.size < W8.heap.size from HN.out.1.lt)).trans hz2; have j3 := (hB9.cell (show w.heap.size < W8.heap.size from HN.out.1.lt)).trans hz3; have j4 := (hB9.cell (show w.heap.size + 1 < W8.heap.size by have := HN.out.2.2.2.2; omega)).trans hy0; have j5 := (hB9.cell (show w.heap.size + 1 < W8.heap.size by have := HN.out.2.2.2.2; omega)).trans hy1; have j6 := (hB9.cell (show gn < W8.heap.size by have := HN.out.2.2.2.2; omega)).trans HN8.out; clear hr1 hr2 hB9; obtain ⟨B1, d1, e1⟩ := Kd.R_slice HR1.out; subst e1; obtain ⟨B2, d2, e2⟩ := Kd.R_slice HR2.out; subst e2; (try simp only [List.length_set] at HR1 HR2); have HS9 := Aside0.mk (show ((((W9.setCell ⟨w.heap.size + 1 + 1, 0, none⟩ (.int .i64 t)).setCell ⟨w.heap.size + 1 + 1, 1, none⟩ (.slice B1 l0.length d1)).setCell ⟨w.heap.size + 1 + 1, 2, none⟩ (.slice B2 l1.length d2)).setCell ⟨w.heap.size + 1 + 1, 3, none⟩ (.bool false)).cell? ⟨w.heap.size, 0, none⟩ = some (.int .i64 t) ∧ ((((W9.setCell ⟨w.heap.size + 1 + 1, 0, none⟩ (.int .i64 t)).setCell ⟨w.heap.size + 1 + 1, 1, none⟩ (.slice B1 l0.length d1)).setCell ⟨w.heap.size + 1 + 1, 2, none⟩ (.slice B2 l1.length d2)).setCell ⟨w.heap.size + 1 + 1, 3, none⟩ (.bool false)).cell? ⟨w.heap.size, 1, none⟩ = some (.slice A0 l0.length c0) ∧ ((((W9.setCell ⟨w.heap.size + 1 + 1, 0, none⟩ (.int .i64 t)).setCell ⟨w.heap.size + 1 + 1, 1, none⟩ (.slice B1 l0.length d1)).setCell ⟨w.heap.size + 1 + 1, 2, none⟩ (.slice B2 l1.length d2)).setCell ⟨w.heap.size + 1 + 1, 3, none⟩ (.bool false)).cell? ⟨w.heap.size, 2, none⟩ = some (.slice (some ad) l1.length c1) ∧ ((((W9.setCell ⟨w.heap.size + 1 + 1, 0, none⟩ (.int .i64 t)).setCell ⟨w.heap.size + 1 + 1, 1, none⟩ (.slice B1 l0.length d1)).setCell ⟨w.heap.size + 1 + 1, 2, none⟩ (.slice B2 l1.length d2)).setCell ⟨w.heap.size + 1 + 1, 3, none⟩ (.bool false)).cell? ⟨w.heap.size, 3, none⟩ = some (.bool false) ∧ ((((W9.setCell ⟨w.heap.size + 1 + 1, 0, none⟩ (.int .i64 t)).setCell ⟨w.heap.size + 1 + 1, 1, none⟩ (.slice B1 l0.length d1)).setCell ⟨w.heap.size + 1 + 1, 2, none⟩ (.slice B2 l1.length d2)).setCell ⟨w.heap.size + 1 + 1, 3, none⟩ (.bool false)).cell? ⟨w.heap.size + 1, 0, none⟩ = some (.int .i64 1) ∧ ((((W9.setCell ⟨w.heap.size + 1 + 1, 0, none⟩ (.int .i64 t)).setCell ⟨w.heap.size + 1 + 1, 1, none⟩ (.slice B1 l0.length d1)).setCell ⟨w.heap.size + 1 + 1, 2, none⟩ (.slice B2 l1.length d2)).setCell ⟨w.heap.size + 1 + 1, 3, none⟩ (.bool false)).cell? ⟨w.heap.size + 1, 1, none⟩ = some (.int .i64 b) ∧ ((((W9.setCell ⟨w.heap.size + 1 + 1, 0, none⟩ (.int .i64 t)).setCell ⟨w.heap.size + 1 + 1, 1, none⟩ (.slice B1 l0.length d1)).setCell ⟨w.heap.size + 1 + 1, 2, none⟩ (.slice B2 l1.length d2)).setCell ⟨w.heap.size + 1 + 1, 3, none⟩ (.bool false)).cell? ⟨gn, 0, none⟩ = some (.int .i64 (s1 + 1)) from ⟨far4 j0 (by omega), far4 j1 (by omega), far4 j2 (by omega), far4 j3 (by omega), far4 j4 (by omega), far4 j5 (by omega), far4 j6 (by have := HN.out.2.2.2.2; omega)⟩); have hc0 : W9.cell? ⟨w.heap.size + 1 + 1, 0, none⟩ = some (.int .i64 0) := (blk_cell HZ9.out 0).trans rfl; have hc1 : W9.cell? ⟨w.heap.size + 1 + 1, 1, none⟩ = some (.slice none 0 0) := (blk_cell HZ9.out 1).trans rfl; have hc2 : W9.cell? ⟨w.heap.size + 1 + 1, 2, none⟩ = some (.slice none 0 0) := (blk_cell HZ9.out 2).trans rfl; have hc3 : W9.cell? ⟨w.heap.size + 1 + 1, 3, none⟩ = some (.bool false) := (blk_cell HZ9.out 3).trans rfl; have hf0 : W9.frozen? ⟨w.heap.size + 1 + 1, 0, none⟩ = false := frozen_of_row _ _ _ _ _ HZ9.out; have hf1 : W9.frozen? ⟨w.heap.size + 1 + 1, 1, none⟩ = false := frozen_of_row _ _ _ _ _ HZ9.out; have hf2 : W9.frozen? ⟨w.heap.size + 1 + 1, 2, none⟩ = false := frozen_of_row _ _ _ _ _ HZ9.out; have hf3 : W9.frozen? ⟨w.heap.size + 1 + 1, 3, none⟩ = false := frozen_of_row _ _ _ _ _ HZ9.out)))
  clear HS9 j0 j1 j2 j3 j4 j5 j6 hz0 hz1 hz2 hz3 hy0 hy1 hmf hc0 hc1 hc2 hc3 hf0 hf1 hf2 hf3
  go_wp2_with fail
  refine bodyPost_ret (results_list (rs := [.cell 4 24, .tmp 5, .tmp 6, .tmp 7]) rfl (by simp) (.cell (w.heap.size + 1 + 1) 24 #[.int .i64 t, .slice B1 l0.length d1, .slice B2 l1.length d2, .bool false] (0, 0) _ rfl (by refine blk_put (cs := #[.int .i64 t, .slice B1 l0.length d1, .slice B2 l1.length d2, .bool false]) ?_ 3 _ rfl; refine blk_put (cs := #[.int .i64 t, .slice B1 l0.length d1, .slice none 0 0, .bool false]) ?_ 2 _ rfl; refine blk_put (cs := #[.int .i64 t, .slice none 0 0, .slice none 0 0, .bool false]) ?_ 1 _ rfl; refine blk_put (cs := #[.int .i64 0, .slice none 0 0, .slice none 0 0, .bool false]) ?_ 0 _ rfl; exact HZ9.out) Tryd.underlying24 rfl (by kernel_rfl) (.tmp (.tmp (.tmp .nil))))) rfl ?_
  have hs : w.heap.size + 3 ≤ W8.heap.size := by have := HN.out.2.2.2.2; omega
  refine ⟨_, _, rfl, ?_, ?_, (((HB9.out.setCell (by simp; omega) _).setCell (by simp; omega) _).setCell (by simp; omega) _).setCell (by simp; omega) _⟩
  · exact Kd.R_lower (Kd.R_mono (Kd.R_far (p := ⟨w.heap.size + 1 + 1, 3, none⟩) (Kd.R_far (p := ⟨w.heap.size + 1 + 1, 2, none⟩) (Kd.R_far (p := ⟨w.heap.size + 1 + 1, 1, none⟩) (Kd.R_far (p := ⟨w.heap.size + 1 + 1, 0, none⟩) HR1.out (fun k hk => by have := hk.2; simp; omega) _) (fun k hk => by have := hk.2; simp; omega) _) (fun k hk => by have := hk.2; simp; omega) _) (fun k hk => by have := hk.2; simp; omega) _) (fun k hk => hk.1)) (show w.heap.size ≤ W8.heap.size by omega)
  · exact Kd.R_lower (Kd.R_mono (Kd.R_far (p := ⟨w.heap.size + 1 + 1, 3, none⟩) (Kd.R_far (p := ⟨w.heap.size + 1 + 1, 2, none⟩) (Kd.R_far (p := ⟨w.heap.size + 1 + 1, 1, none⟩) (Kd.R_far (p := ⟨w.heap.size + 1 + 1, 0, none⟩) HR2.out (fun k hk => by have := hk.2; simp; omega) _) (fun k hk => by have := hk.2; simp; omega) _) (fun k hk => by have := hk.2; simp; omega) _) (fun k hk => by have := hk.2; simp; omega) _) (fun k hk => hk.1)) (show w.heap.size ≤ W8.heap.size by omega)

set_option maxHeartbeats 4000000 in
set_option maxRecDepth 100000 in
theorem begin_held_red (t : Int) (A0 : Option Addr) (c0 : Nat) (l0 : List S38) (A1 : Option Addr) (c1 : Nat) (l1 : List S38) (b : Nat) (w : World)
    (h0 : Kd.C k38 w A0 l0.length l0) (hcap0 : l0.length ≤ c0) (h1 : Kd.C k38 w A1 l1.length l1) (hl0 : l0.length ≤ 6000000000000) (hl1 : l1.length ≤ 6000000000000) (hT : Tab w) (he : knownP t l0 l1 false [⟨1, b⟩] = 0) (hb : b < l1.length) (hst : (rd_T38 l1 (b : Int)).f0 = 2) (kf : Nat) (hall : ledger_all.f kf l0 = some true) (hl0' : l0.length ≤ 100000) (hl1' : l1.length ≤ 100000) :
    Calls Tryd.prog 28 #[.agg #[.int .i64 t, .slice A0 l0.length c0, .slice A1 l1.length c1, .bool false], .agg #[.int .i64 1, .int .i64 b]] w fun e_ w' => ∃ v1 v2 : Value, e_ = .returned (.tuple #[.agg #[.int .i64 t, v1, v2, .bool false], .int .i64 ((rd_T38 l1 (b : Int)).f1), .bool false, .int .i64 0]) ∧ Kd.R k38 38 w' w.heap.size (fun k => some k ≠ v2.ownBlock) v1 l0 ∧ Kd.R k38 38 w' w.heap.size (fun k => some k ≠ v1.ownBlock) v2 (l1.set b ⟨1, (rd_T38 l1 (b : Int)).f1, (rd_T38 l1 (b : Int)).f2⟩) ∧ Below w.heap.size w w' := by
  have hl3 := lays3_of w t (.slice A0 l0.length c0) (.slice A1 l1.length c1) false 1 b
  have hba : Below w.heap.size w ((w3of w t (.slice A0 l0.length c0) (.slice A1 l1.length c1) false 1 b).alloc (.cells #[.int .i64 1, .int .i64 b] 29)) := below_alloc hl3.q0 _
  have hkn := known_any t false A0 c0 l0 A1 c1 l1 (some ⟨(w3of w t (.slice A0 l0.length c0) (.slice A1 l1.length c1) false 1 b).heap.size, 0, none⟩) 1 [⟨1, b⟩] ((w3of w t (.slice A0 l0.length c0) (.slice A1 l1.length c1) false 1 b).alloc (.cells #[.int .i64 1, .int .i64 b] 29)) (Kd.C_below h0 hba) (Kd.C_below h1 hba) (C_one (w3of w t (.slice A0 l0.length c0) (.slice A1 l1.length c1) false 1 b) 1 b) (by simp) hl0 hl1 (hT.below hba)
  rw [he] at hkn
  have H0 := Aside0.mk h0
  have H1 := Aside0.mk h1
  have HCP := Aside0.mk hcap0
  obtain ⟨W3, hW3⟩ : ∃ W3, (w3of w t (.slice A0 l0.length c0) (.slice A1 l1.length c1) false 1 b) = W3 := ⟨_, rfl⟩
  rw [hW3] at hl3 hba hkn
  unfold w3of at hW3
  have HW3 := Aside0.mk hW3
  have HL := Aside0.mk hl3
  have HKN := Aside0.mk hkn
  have ha := below_alloc (Below.refl W3.heap.size W3) (.cells #[.int .i64 1, .int .i64 b] 29)
  have HBA := Aside0.mk ha
  clear hba hkn h0 h1 he hl3 hT hl0 hl1 ha hW3 hcap0
  have hu22 := Tryd.underlying22
  have hu29 := Tryd.underlying29
  have hu24 := Tryd.underlying24
  have hu38 := Tryd.underlying38
  have hu26 := Tryd.underlying26
  have hu85 := Tryd.underlying85
  have hz0 := HL.out.q2.c0
  have hz1 := HL.out.q2.c1
  have hz2 := HL.out.q2.c2
  have hz3 := HL.out.q2.c3
  have hy0 : W3.cell? ⟨w.heap.size + 1, 0, none⟩ = some (.int .i64 1) := (blk_cell HL.out.q3 0).trans rfl
  have hy1 : W3.cell? ⟨w.heap.size + 1, 1, none⟩ = some (.int .i64 b) := (blk_cell HL.out.q3 1).trans rfl
  obtain ⟨ad, ea, hx0, hx1, hx2⟩ := at_T38 H1.out (b : Int) (by omega) (by omega)
  subst ea
  rw [Int.toNat_natCast] at hx0 hx1 hx2
  obtain ⟨⟨sa, s1, s2⟩, hs⟩ : ∃ s, rd_T38 l1 (b : Int) = s := ⟨_, rfl⟩
  rw [hs] at hx0 hx1 hx2 hst
  rw [hs]
  dsimp only at *
  subst hst
  have HX := Aside0.mk (And.intro hx0 (And.intro hx1 hx2))
  have HS := Aside0.mk hs
  have HBI := Aside0.mk hb
  clear hx0 hx1 hx2 hs hb
  go_enter Tryd.func28, Tryd.ntmps28
  go_upto_region 1 with (fail)
  rw [HW3.out]
  clear HW3
  go_upto_region 6 with (first | (go_at_call 54; go_must (refine HKN.out.mono ?_; rintro e_ W4 ⟨rfl, hB4⟩; have HF := Aside0.mk (HL.out.below (below_step HBA.out hB4)); clear hB4 HL HKN HBA hz0 hz1 hz2 hz3 hy0 hy1; have hv0 : W4.cell? ⟨w.heap.size + 1, 0, none⟩ = some (.int .i64 1) := (blk_cell HF.out.2.1 0).trans rfl; have hv1 : W4.cell? ⟨w.heap.size + 1, 1, none⟩ = some (.int .i64 b) := (blk_cell HF.out.2.1 1).trans rfl)) | (go_at_call 55; go_must (refine (state_red W4 w.heap.size t ad _ _ _ false b HF.out.1 (by omega) (by have := HBI.out; omega)).mono ?_; rintro e_ W5 ⟨rfl, hB5⟩; have HG := Aside0.mk (show bookAt W5 w.heap.size t _ _ false ∧ W5.heap[w.heap.size + 1]? = some (.cells #[.int .i64 1, .int .i64 b] 29 (0, 0)) ∧ W5.heap[w.heap.size + 1 + 1]? = some (.cells #[.int .i64 0, .slice none 0 0, .slice none 0 0, .bool false] 24 (0, 0)) ∧ Below w.heap.size w W5 ∧ w.heap.size + 3 ≤ W5.heap.size from ⟨HF.out.1.below hB5 HF.out.1.lt, (hB5.block _ (by have := HF.out.2.2.2.2; omega)).trans HF.out.2.1, (hB5.block _ (by have := HF.out.2.2.2.2; omega)).trans HF.out.2.2.1, below_step HF.out.2.2.2.1 hB5, by have := hB5.size; have := HF.out.2.2.2.2; omega⟩); clear hB5 HF hv0 hv1; have hx0 := (HG.out.2.2.2.1.cell (World.block_lt_of_cell? w _ HX.out.1)).trans HX.out.1; have hx1 := (HG.out.2.2.2.1.cell (World.block_lt_of_cell? w _ HX.out.2.1)).trans HX.out.2.1; have hx2 := (HG.out.2.2.2.1.cell (World.block_lt_of_cell? w _ HX.out.2.2)).trans HX.out.2.2)))
  clear hx0 hx1 hx2
  obtain ⟨W6, hW6⟩ : ∃ W6, W6 = (W5.alloc (.cells #[.int .i64 2, .int .i64 s1, .int .i64 s2] 38)).alloc (.cells #[.bool true, .bool false, .bool true, .bool false] 85) := ⟨_, rfl⟩
  rw [← hW6]
  have hb6 : Below W5.heap.size W5 W6 := by rw [hW6]; exact below_alloc (below_alloc (Below.refl _ _) _) _
  have hsz6 : W6.heap.size = W5.heap.size + 1 + 1 := by rw [hW6]; simp
  have hr9 : W6.heap[W5.heap.size]? = some (.cells #[.int .i64 2, .int .i64 s1, .int .i64 s2] 38 (0, 0)) := by
    rw [hW6]
    exact ((below_alloc (Below.refl _ _) _).block W5.heap.size (by simp)).trans (heap_alloc_new W5 _)
  have hr10 : W6.heap[W5.heap.size + 1]? = some (.cells #[.bool true, .bool false, .bool true, .bool false] 85 (0, 0)) := by
    have e1 := heap_alloc_new (W5.alloc (.cells #[.int .i64 2, .int .i64 s1, .int .i64 s2] 38)) (.cells #[.bool true, .bool false, .bool true, .bool false] 85)
    rw [show (W5.alloc (.cells #[.int .i64 2, .int .i64 s1, .int .i64 s2] 38)).heap.size = W5.heap.size + 1 from by simp] at e1
    rw [hW6]
    exact e1
  have HM := Aside0.mk (show bookAt W6 w.heap.size t _ _ false ∧ W6.heap[w.heap.size + 1]? = some (.cells #[.int .i64 1, .int .i64 b] 29 (0, 0)) ∧ W6.heap[w.heap.size + 1 + 1]? = some (.cells #[.int .i64 0, .slice none 0 0, .slice none 0 0, .bool false] 24 (0, 0)) ∧ Below w.heap.size w W6 ∧ w.heap.size + 3 ≤ W5.heap.size from ⟨HG.out.1.below hb6 HG.out.1.lt, (hb6.block _ (by have := HG.out.2.2.2.2; omega)).trans HG.out.2.1, (hb6.block _ (by have := HG.out.2.2.2.2; omega)).trans HG.out.2.2.1, below_step HG.out.2.2.2.1 hb6, HG.out.2.2.2.2⟩)
  have HSZ := Aside0.mk hsz6
  have hz3 := HM.out.1.c3
  have hz1 := HM.out.1.c1
  have ht0 : W6.cell? ⟨w.heap.size + 1, 0, none⟩ = some (.int .i64 1) := (blk_cell HM.out.2.1 0).trans rfl
  have hm0 : W6.cell? ⟨W5.heap.size, 0, none⟩ = some (.int .i64 2) := (blk_cell hr9 0).trans rfl
  have hm1 : W6.cell? ⟨W5.heap.size, 1, none⟩ = some (.int .i64 s1) := (blk_cell hr9 1).trans rfl
  have hy0 : W6.cell? ⟨W5.heap.size + 1, 0, none⟩ = some (.bool true) := (blk_cell hr10 0).trans rfl
  have hy1 : W6.cell? ⟨W5.heap.size + 1, 1, none⟩ = some (.bool false) := (blk_cell hr10 1).trans rfl
  have hy2 : W6.cell? ⟨W5.heap.size + 1, 2, none⟩ = some (.bool true) := (blk_cell hr10 2).trans rfl
  have hy3 : W6.cell? ⟨W5.heap.size + 1, 3, none⟩ = some (.bool false) := (blk_cell hr10 3).trans rfl
  clear hW6 hsz6 HG hb6
  have HAL := Aside0.mk (ledger_all.calls kf A0 c0 l0 true W6 (Kd.C_below H0.out HM.out.2.2.2.1) HCP.out hall)
  have HR9 := Aside0.mk hr9
  clear hall hr9 hr10
  go_upto_region 12 with (go_at_call 40; go_must (refine HAL.out.mono ?_; rintro e_ W7 ⟨rfl, hB7⟩; have HM7 := Aside0.mk (show bookAt W7 w.heap.size t _ _ false ∧ W7.heap[w.heap.size + 1]? = some (.cells #[.int .i64 1, .int .i64 b] 29 (0, 0)) ∧ W7.heap[w.heap.size + 1 + 1]? = some (.cells #[.int .i64 0, .slice none 0 0, .slice none 0 0, .bool false] 24 (0, 0)) ∧ Below w.heap.size w W7 ∧ w.heap.size + 3 ≤ W7.heap.size from ⟨HM.out.1.below hB7 HM.out.1.lt, (hB7.block _ (by have := HM.out.2.2.2.2; have := HSZ.out; omega)).trans HM.out.2.1, (hB7.block _ (by have := HM.out.2.2.2.2; have := HSZ.out; omega)).trans HM.out.2.2.1, below_step HM.out.2.2.2.1 hB7, by have := hB7.size; have := HM.out.2.2.2.2; have := HSZ.out; omega⟩); have hr9 := (hB7.block _ (by have := HSZ.out; omega)).trans HR9.out; have hm0 : W7.cell? ⟨W5.heap.size, 0, none⟩ = some (.int .i64 2) := (blk_cell hr9 0).trans rfl; have hm1 : W7.cell? ⟨W5.heap.size, 1, none⟩ = some (.int .i64 s1) := (blk_cell hr9 1).trans rfl; clear hB7 HM HAL hr9 HR9))
  obtain ⟨gn, hgn⟩ : ∃ gn, W7.heap.size = gn := ⟨_, rfl⟩
  have hb8 : Below W7.heap.size W7 (W7.alloc (.cells #[.int .i64 s1] 3)) := below_alloc (Below.refl _ _) _
  have hn8 : (W7.alloc (.cells #[.int .i64 s1] 3)).cell? ⟨W7.heap.size, 0, none⟩ = some (.int .i64 s1) := (blk_cell (heap_alloc_new W7 _) 0).trans rfl
  have hs8 : (W7.alloc (.cells #[.int .i64 s1] 3)).heap.size = W7.heap.size + 1 := by simp
  obtain ⟨W8, hW8⟩ : ∃ W8, W8 = W7.alloc (.cells #[.int .i64 s1] 3) := ⟨_, rfl⟩
  rw [← hW8] at hb8 hn8 hs8 ⊢
  rw [hgn] at hn8 hs8 ⊢
  have HN := Aside0.mk (show bookAt W8 w.heap.size t _ _ false ∧ W8.heap[w.heap.size + 1]? = some (.cells #[.int .i64 1, .int .i64 b] 29 (0, 0)) ∧ W8.heap[w.heap.size + 1 + 1]? = some (.cells #[.int .i64 0, .slice none 0 0, .slice none 0 0, .bool false] 24 (0, 0)) ∧ Below w.heap.size w W8 ∧ w.heap.size + 3 ≤ gn ∧ W8.heap.size = gn + 1 from ⟨HM7.out.1.below hb8 HM7.out.1.lt, (hb8.block _ (by have := HM7.out.2.2.2.2; omega)).trans HM7.out.2.1, (hb8.block _ (by have := HM7.out.2.2.2.2; omega)).trans HM7.out.2.2.1, below_step HM7.out.2.2.2.1 hb8, by have := HM7.out.2.2.2.2; omega, hs8⟩)
  have hsr := HS.out
  have hch := changed_red 57 #[.pointer (some ⟨gn, 0, none⟩)] (enters_of Tryd.func57 (by kernel_rfl) rfl) t false A0 c0 l0 (some ad) c1 l1 b ⟨1, s1, s2⟩ false W8.drew (Kd.C_below (Kd.C_below H0.out HN.out.2.2.2.1) (below_drew1 (Below.refl _ _))) (Kd.C_below (Kd.C_below H1.out HN.out.2.2.2.1) (below_drew1 (Below.refl _ _))) hl0' hl1' HBI.out
    (fun W gb gs off u0 u1 g1 g2 g3 g4 g5 => by
      rw [hsr] at g2
      have hn : W.cell? ⟨gn, 0, none⟩ = some (.int .i64 s1) := (g5.cell (show gn < W8.drew.heap.size by show gn < W8.heap.size; omega)).trans hn8
      exact do_begin W gb gs off gn s1 t u0 u1 false ⟨2, s1, s2⟩ g1 g2 g3 hn (by have : W8.heap.size ≤ gs := g4; omega))
  have HCH := Aside0.mk hch
  clear hch hsr hW8 hb8 hs8 hm0 hm1 hz3 hz1 ht0 hy0 hy1 hy2 hy3 hgn hl0' hl1'
  have hz0 := HN.out.1.c0
  have hz1 := HN.out.1.c1
  have hz2 := HN.out.1.c2
  have hz3 := HN.out.1.c3
  have hy0 : W8.cell? ⟨w.heap.size + 1, 0, none⟩ = some (.int .i64 1) := (blk_cell HN.out.2.1 0).trans rfl
  have hy1 : W8.cell? ⟨w.heap.size + 1, 1, none⟩ = some (.int .i64 b) := (blk_cell HN.out.2.1 1).trans rfl
  have hmf : ∀ (fn : Fn) (first cap : Array Value) (w : World), (Instr.makeFunc fn first cap).run Tryd.prog w = .ok (.func fn first cap) w := fun _ _ _ _ => rfl
  have HN8 := Aside0.mk hn8
  go_region_held3 (fun w' => w'.cell? ⟨w.heap.size, 0, none⟩ = some (.int .i64 t) ∧ w'.cell? ⟨w.heap.size, 1, none⟩ = some (.slice A0 l0.length c0) ∧ w'.cell? ⟨w.heap.size, 2, none⟩ = some (.slice (some ad) l1.length c1) ∧ w'.cell? ⟨w.heap.size, 3, none⟩ = some (.bool false) ∧ w'.cell? ⟨w.heap.size + 1, 0, none⟩ = some (.int .i64 1) ∧ w'.cell? ⟨w.heap.size + 1, 1, none⟩ = some (.int .i64 b) ∧ w'.cell? ⟨gn, 0, none⟩ = some (.int .i64 s1)) (first | exact HS9.out | go_keep) ((go_at_call 56; go_must (refine HCH.out.mono ?_; rintro e_ W9 ⟨v1, v2, rfl, hr1, hr2, hB9⟩; have HK := Aside0.mk (hB9.size); have HR1 := Aside0.mk (Kd.R_mono (Kd.R_bound hr1) (fun k hk => (⟨hk.1, hk.2.1⟩ : _ ∧ W8.heap.size ≤ k))); have HR2 := Aside0.mk (Kd.R_mono (Kd.R_bound hr2) (fun k hk => (⟨hk.1, hk.2.1⟩ : _ ∧ W8.heap.size ≤ k))); have HB9 := Aside0.mk (below_step (below_drew1 HN.out.2.2.2.1) hB9); have HZ9 := Aside0.mk (show W9.heap[w.heap.size + 1 + 1]? = some (.cells #[.int .i64 0, .slice none 0 0, .slice none 0 0, .bool false] 24 (0, 0)) from (hB9.block _ (show w.heap.size + 1 + 1 < W8.heap.size by have := HN.out.2.2.2.2; omega)).trans HN.out.2.2.1); have j0 := (hB9.cell (show w.heap.size < W8.heap.size from HN.out.1.lt)).trans hz0; have j1 := (hB9.cell (show w.heap.size < W8.heap.size from HN.out.1.lt)).trans hz1; have j2 := (hB9.cell (show w.heap.size < W8.heap.size from HN.out.1.lt)).trans hz2; have j3 := (hB9.cell (show w.heap.size < W8.heap.size from HN.out.1.lt)).trans hz3; have j4 := (hB9.cell (show w.heap.size + 1 < W8.heap.size by have := HN.out.2.2.2.2; omega)).trans hy0; have j5 := (hB9.cell (show w.heap.size + 1 < W8.heap.size by have := HN.out.2.2.2.2; omega)).trans hy1; have j6 := (hB9.cell (show gn < W8.heap.size by have := HN.out.2.2.2.2; omega)).trans HN8.out; clear hr1 hr2 hB9; obtain ⟨B1, d1, e1⟩ := Kd.R_slice HR1.out; subst e1; obtain ⟨B2, d2, e2⟩ := Kd.R_slice HR2.out; subst e2; (try simp only [List.length_set] at HR1 HR2); have HS9 := Aside0.mk (show ((((W9.setCell ⟨w.heap.size + 1 + 1, 0, none⟩ (.int .i64 t)).setCell ⟨w.heap.size + 1 + 1, 1, none⟩ (.slice B1 l0.length d1)).setCell ⟨w.heap.size + 1 + 1, 2, none⟩ (.slice B2 l1.length d2)).setCell ⟨w.heap.size + 1 + 1, 3, none⟩ (.bool false)).cell? ⟨w.heap.size, 0, none⟩ = some (.int .i64 t) ∧ ((((W9.setCell ⟨w.heap.size + 1 + 1, 0, none⟩ (.int .i64 t)).setCell ⟨w.heap.size + 1 + 1, 1, none⟩ (.slice B1 l0.length d1)).setCell ⟨w.heap.size + 1 + 1, 2, none⟩ (.slice B2 l1.length d2)).setCell ⟨w.heap.size + 1 + 1, 3, none⟩ (.bool false)).cell? ⟨w.heap.size, 1, none⟩ = some (.slice A0 l0.length c0) ∧ ((((W9.setCell ⟨w.heap.size + 1 + 1, 0, none⟩ (.int .i64 t)).setCell ⟨w.heap.size + 1 + 1, 1, none⟩ (.slice B1 l0.length d1)).setCell ⟨w.heap.size + 1 + 1, 2, none⟩ (.slice B2 l1.length d2)).setCell ⟨w.heap.size + 1 + 1, 3, none⟩ (.bool false)).cell? ⟨w.heap.size, 2, none⟩ = some (.slice (some ad) l1.length c1) ∧ ((((W9.setCell ⟨w.heap.size + 1 + 1, 0, none⟩ (.int .i64 t)).setCell ⟨w.heap.size + 1 + 1, 1, none⟩ (.slice B1 l0.length d1)).setCell ⟨w.heap.size + 1 + 1, 2, none⟩ (.slice B2 l1.length d2)).setCell ⟨w.heap.size + 1 + 1, 3, none⟩ (.bool false)).cell? ⟨w.heap.size, 3, none⟩ = some (.bool false) ∧ ((((W9.setCell ⟨w.heap.size + 1 + 1, 0, none⟩ (.int .i64 t)).setCell ⟨w.heap.size + 1 + 1, 1, none⟩ (.slice B1 l0.length d1)).setCell ⟨w.heap.size + 1 + 1, 2, none⟩ (.slice B2 l1.length d2)).setCell ⟨w.heap.size + 1 + 1, 3, none⟩ (.bool false)).cell? ⟨w.heap.size + 1, 0, none⟩ = some (.int .i64 1) ∧ ((((W9.setCell ⟨w.heap.size + 1 + 1, 0, none⟩ (.int .i64 t)).setCell ⟨w.heap.size + 1 + 1, 1, none⟩ (.slice B1 l0.length d1)).setCell ⟨w.heap.size + 1 + 1, 2, none⟩ (.slice B2 l1.length d2)).setCell ⟨w.heap.size + 1 + 1, 3, none⟩ (.bool false)).cell? ⟨w.heap.size + 1, 1, none⟩ = some (.int .i64 b) ∧ ((((W9.setCell ⟨w.heap.size + 1 + 1, 0, none⟩ (.int .i64 t)).setCell ⟨w.heap.size + 1 + 1, 1, none⟩ (.slice B1 l0.length d1)).setCell ⟨w.heap.size + 1 + 1, 2, none⟩ (.slice B2 l1.length d2)).setCell ⟨w.heap.size + 1 + 1, 3, none⟩ (.bool false)).cell? ⟨gn, 0, none⟩ = some (.int .i64 s1) from ⟨far4 j0 (by omega), far4 j1 (by omega), far4 j2 (by omega), far4 j3 (by omega), far4 j4 (by omega), far4 j5 (by omega), far4 j6 (by have := HN.out.2.2.2.2; omega)⟩); have hc0 : W9.cell? ⟨w.heap.size + 1 + 1, 0, none⟩ = some (.int .i64 0) := (blk_cell HZ9.out 0).trans rfl; have hc1 : W9.cell? ⟨w.heap.size + 1 + 1, 1, none⟩ = some (.slice none 0 0) := (blk_cell HZ9.out 1).trans rfl; have hc2 : W9.cell? ⟨w.heap.size + 1 + 1, 2, none⟩ = some (.slice none 0 0) := (blk_cell HZ9.out 2).trans rfl; have hc3 : W9.cell? ⟨w.heap.size + 1 + 1, 3, none⟩ = some (.bool false) := (blk_cell HZ9.out 3).trans rfl; have hf0 : W9.frozen? ⟨w.heap.size + 1 + 1, 0, none⟩ = false := frozen_of_row _ _ _ _ _ HZ9.out; have hf1 : W9.frozen? ⟨w.heap.size + 1 + 1, 1, none⟩ = false := frozen_of_row _ _ _ _ _ HZ9.out; have hf2 : W9.frozen? ⟨w.heap.size + 1 + 1, 2, none⟩ = false := frozen_of_row _ _ _ _ _ HZ9.out; have hf3 : W9.frozen? ⟨w.heap.size + 1 + 1, 3, none⟩ = false := frozen_of_row _ _ _ _ _ HZ9.out)))
  clear HS9 j0 j1 j2 j3 j4 j5 j6 hz0 hz1 hz2 hz3 hy0 hy1 hmf hc0 hc1 hc2 hc3 hf0 hf1 hf2 hf3
  go_wp2_with fail
  refine bodyPost_ret (results_list (rs := [.cell 4 24, .tmp 5, .tmp 6, .tmp 7]) rfl (by simp) (.cell (w.heap.size + 1 + 1) 24 #[.int .i64 t, .slice B1 l0.length d1, .slice B2 l1.length d2, .bool false] (0, 0) _ rfl (by refine blk_put (cs := #[.int .i64 t, .slice B1 l0.length d1, .slice B2 l1.length d2, .bool false]) ?_ 3 _ rfl; refine blk_put (cs := #[.int .i64 t, .slice B1 l0.length d1, .slice none 0 0, .bool false]) ?_ 2 _ rfl; refine blk_put (cs := #[.int .i64 t, .slice none 0 0, .slice none 0 0, .bool false]) ?_ 1 _ rfl; refine blk_put (cs := #[.int .i64 0, .slice none 0 0, .slice none 0 0, .bool false]) ?_ 0 _ rfl; exact HZ9.out) Tryd.underlying24 rfl (by kernel_rfl) (.tmp (.tmp (.tmp .nil))))) rfl ?_
  have hs : w.heap.size + 3 ≤ W8.heap.size := by have := HN.out.2.2.2.2; omega
  refine ⟨_, _, rfl, ?_, ?_, (((HB9.out.setCell (by simp; omega) _).setCell (by simp; omega) _).setCell (by simp; omega) _).setCell (by simp; omega) _⟩
  · exact Kd.R_lower (Kd.R_mono (Kd.R_far (p := ⟨w.heap.size + 1 + 1, 3, none⟩) (Kd.R_far (p := ⟨w.heap.size + 1 + 1, 2, none⟩) (Kd.R_far (p := ⟨w.heap.size + 1 + 1, 1, none⟩) (Kd.R_far (p := ⟨w.heap.size + 1 + 1, 0, none⟩) HR1.out (fun k hk => by have := hk.2; simp; omega) _) (fun k hk => by have := hk.2; simp; omega) _) (fun k hk => by have := hk.2; simp; omega) _) (fun k hk => by have := hk.2; simp; omega) _) (fun k hk => hk.1)) (show w.heap.size ≤ W8.heap.size by omega)
  · exact Kd.R_lower (Kd.R_mono (Kd.R_far (p := ⟨w.heap.size + 1 + 1, 3, none⟩) (Kd.R_far (p := ⟨w.heap.size + 1 + 1, 2, none⟩) (Kd.R_far (p := ⟨w.heap.size + 1 + 1, 1, none⟩) (Kd.R_far (p := ⟨w.heap.size + 1 + 1, 0, none⟩) HR2.out (fun k hk => by have := hk.2; simp; omega) _) (fun k hk => by have := hk.2; simp; omega) _) (fun k hk => by have := hk.2; simp; omega) _) (fun k hk => by have := hk.2; simp; omega) _) (fun k hk => hk.1)) (show w.heap.size ≤ W8.heap.size by omega)
end Go.Proofs.YtponmfnegdlppaaDoor.P

end
