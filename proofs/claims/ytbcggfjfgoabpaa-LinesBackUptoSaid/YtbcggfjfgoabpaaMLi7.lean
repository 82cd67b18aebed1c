/- Several texts laid together (wip/tools/merge2.py): Pf7. -/
import Derived.Test.YtbcggfjfgoabpaaMLi1
import Derived.Test.YtbcggfjfgoabpaaMLi2
import Derived.Test.YtbcggfjfgoabpaaMLi6
section
-- Written by a program of this session (wip/tools/hprint.py, over the kit's printer), not by hand. Lean checks it.
namespace Go.Proofs.Ytbcggfjfgoabpaa.P
open Go.RowKit Go.Proofs.YtbcggfjfgoabpaaW.PrintWords Go.Proofs.YtbcggfjfgoabpaaW.PrintLast Go.Proofs.YtbcggfjfgoabpaaW.PrintMore
attribute [local go_sem] max2_int min2_int max_two min_two max_three min_three max_four min_four
set_option linter.unusedVariables false
set_option linter.unusedSimpArgs false

/-! ### winnowlaw13_LinesBack: function 7 -/
mutual
def winnowlaw13_LinesBack.l0 : Nat → ByteArray → List ByteArray → Int → Int → Option (Bool)
  | 0, _, _, _, _ => none
  | k + 1, x0, x3, x4, x5 => if x5 < (x3.length : Int) then (if 0 ≤ x5 then (if (wrap64 (x4 + ((rdOf ByteArray.empty x3 x5).size : Int))) > (x0.size : Int) then (winnowlaw13_LinesBack.j1 k x0 x3 x4 x5 true) else (if 0 ≤ x4 then (if x4 ≤ (wrap64 (x4 + ((rdOf ByteArray.empty x3 x5).size : Int))) then (if (wrap64 (x4 + ((rdOf ByteArray.empty x3 x5).size : Int))) ≤ (x0.size : Int) then (winnowlaw13_LinesBack.j1 k x0 x3 x4 x5 ((x0.extract (x4 : Int).toNat ((wrap64 (x4 + ((rdOf ByteArray.empty x3 x5).size : Int))) : Int).toNat).toList != (rdOf ByteArray.empty x3 x5).toList)) else (none)) else (none)) else (none))) else (none)) else (if x4 = (x0.size : Int) then ((winnowlaw13_works.f).bind fun t388 => (some t388)) else (some false))
def winnowlaw13_LinesBack.j1 : Nat → ByteArray → List ByteArray → Int → Int → Bool → Option (Bool)
  | 0, _, _, _, _, _ => none
  | k + 1, x0, x3, x4, x5, x41 => if x41 = true then (some false) else (winnowlaw13_LinesBack.l1 k x0 x3 x4 x5 0)
def winnowlaw13_LinesBack.l1 : Nat → ByteArray → List ByteArray → Int → Int → Int → Option (Bool)
  | 0, _, _, _, _, _ => none
  | k + 1, x0, x3, x4, x5, x6 => if 0 ≤ x5 then (if x5 < (x3.length : Int) then (if x6 < ((rdOf ByteArray.empty x3 x5).size : Int) then (if 0 ≤ x6 then (if (bt (rdOf ByteArray.empty x3 x5) x6) = 10 then (some false) else (winnowlaw13_LinesBack.l1 k x0 x3 x4 x5 (wrap64 (x6 + 1)))) else (none)) else (if (wrap64 (x4 + ((rdOf ByteArray.empty x3 x5).size : Int))) = (x0.size : Int) then (if x5 = (wrap64 ((x3.length : Int) - 1)) then (if ((rdOf ByteArray.empty x3 x5).size : Int) > 0 then ((winnowlaw13_works.f).bind fun t396 => (some t396)) else (some false)) else (some false)) else (if 0 ≤ (wrap64 (x4 + ((rdOf ByteArray.empty x3 x5).size : Int))) then (if (wrap64 (x4 + ((rdOf ByteArray.empty x3 x5).size : Int))) < (x0.size : Int) then (if (bt x0 (wrap64 (x4 + ((rdOf ByteArray.empty x3 x5).size : Int)))) = 10 then (winnowlaw13_LinesBack.l0 k x0 x3 (wrap64 ((wrap64 (x4 + ((rdOf ByteArray.empty x3 x5).size : Int))) + 1)) (wrap64 (x5 + 1))) else (some false)) else (none)) else (none)))) else (none)) else (none)
end
def winnowlaw13_LinesBack.f (k : Nat) (a0 : ByteArray) : Option (Bool) := (lines_Lines.f a0).bind fun t385 => (winnowlaw13_LinesBack.l0 k a0 t385 0 0)
theorem winnowlaw13_LinesBack.mono_l : ∀ k, (∀ y0 y1 y2 y3, LeO (winnowlaw13_LinesBack.l0 k y0 y1 y2 y3) (winnowlaw13_LinesBack.l0 (k + 1) y0 y1 y2 y3)) ∧ (∀ y0 y1 y2 y3 y4, LeO (winnowlaw13_LinesBack.j1 k y0 y1 y2 y3 y4) (winnowlaw13_LinesBack.j1 (k + 1) y0 y1 y2 y3 y4)) ∧ (∀ y0 y1 y2 y3 y4, LeO (winnowlaw13_LinesBack.l1 k y0 y1 y2 y3 y4) (winnowlaw13_LinesBack.l1 (k + 1) y0 y1 y2 y3 y4))
  | 0 => ⟨fun _ _ _ _ r h => by simp [winnowlaw13_LinesBack.l0] at h, fun _ _ _ _ _ r h => by simp [winnowlaw13_LinesBack.j1] at h, fun _ _ _ _ _ r h => by simp [winnowlaw13_LinesBack.l1] at h⟩
  | k + 1 => by
    obtain ⟨ih0, ih1, ih2⟩ := winnowlaw13_LinesBack.mono_l k
    refine ⟨?_, ?_, ?_⟩
    · intro y0 y1 y2 y3
      unfold winnowlaw13_LinesBack.l0
      repeat' first
      | (with_reducible exact ih0 _ _ _ _)
      | (with_reducible exact ih1 _ _ _ _ _)
      | (with_reducible exact ih2 _ _ _ _ _)
      | (with_reducible exact LeO.refl _)
      | (with_reducible exact LeO.none _)
      | (with_reducible refine LeO.ite ?_ ?_)
      | (with_reducible refine LeO.bind ?_ (fun _ => ?_))
      | exact ih0 _ _ _ _
      | exact ih1 _ _ _ _ _
      | exact ih2 _ _ _ _ _
      | exact LeO.none _
      | refine LeO.ite ?_ ?_
      | refine LeO.bind ?_ (fun _ => ?_)
    · intro y0 y1 y2 y3 y4
      unfold winnowlaw13_LinesBack.j1
      repeat' first
      | (with_reducible exact ih0 _ _ _ _)
      | (with_reducible exact ih1 _ _ _ _ _)
      | (with_reducible exact ih2 _ _ _ _ _)
      | (with_reducible exact LeO.refl _)
      | (with_reducible exact LeO.none _)
      | (with_reducible refine LeO.ite ?_ ?_)
      | (with_reducible refine LeO.bind ?_ (fun _ => ?_))
      | exact ih0 _ _ _ _
      | exact ih1 _ _ _ _ _
      | exact ih2 _ _ _ _ _
      | exact LeO.none _
      | refine LeO.ite ?_ ?_
      | refine LeO.bind ?_ (fun _ => ?_)
    · intro y0 y1 y2 y3 y4
      unfold winnowlaw13_LinesBack.l1
      repeat' first
      | (with_reducible exact ih0 _ _ _ _)
      | (with_reducible exact ih1 _ _ _ _ _)
      | (with_reducible exact ih2 _ _ _ _ _)
      | (with_reducible exact LeO.refl _)
      | (with_reducible exact LeO.none _)
      | (with_reducible refine LeO.ite ?_ ?_)
      | (with_reducible refine LeO.bind ?_ (fun _ => ?_))
      | exact ih0 _ _ _ _
      | exact ih1 _ _ _ _ _
      | exact ih2 _ _ _ _ _
      | exact LeO.none _
      | refine LeO.ite ?_ ?_
      | refine LeO.bind ?_ (fun _ => ?_)
theorem winnowlaw13_LinesBack.mono : ∀ a0 k, LeO (winnowlaw13_LinesBack.f k a0) (winnowlaw13_LinesBack.f (k + 1) a0) := by
  intro a0 k
  obtain ⟨ih0, ih1, ih2⟩ := winnowlaw13_LinesBack.mono_l k
  unfold winnowlaw13_LinesBack.f
  repeat' first
      | (with_reducible exact ih0 _ _ _ _)
      | (with_reducible exact ih1 _ _ _ _ _)
      | (with_reducible exact ih2 _ _ _ _ _)
      | (with_reducible exact LeO.refl _)
      | (with_reducible exact LeO.none _)
      | (with_reducible refine LeO.ite ?_ ?_)
      | (with_reducible refine LeO.bind ?_ (fun _ => ?_))
      | exact ih0 _ _ _ _
      | exact ih1 _ _ _ _ _
      | exact ih2 _ _ _ _ _
      | exact LeO.none _
      | refine LeO.ite ?_ ?_
      | refine LeO.bind ?_ (fun _ => ?_)
set_option maxHeartbeats 8000000 in
set_option maxRecDepth 100000 in
theorem winnowlaw13_LinesBack.calls (k : Nat) (a0 : ByteArray) (r : Bool) (w : World) (h : winnowlaw13_LinesBack.f k a0 = some r) :
    Calls Try.prog 7 #[.string a0] w fun e w' => e = .returned (.bool r) ∧ Below w.heap.size w w' := by
  have HB := Aside0.mk (Below.refl w.heap.size w)
  have H : ((lines_Lines.f a0).bind fun t385 => (winnowlaw13_LinesBack.l0 k a0 t385 0 0)) = some r := h
  clear h
  replace H := Option.bind_eq_some_iff.mp H
  obtain ⟨t385, A20, H⟩ := H
  replace H : (winnowlaw13_LinesBack.l0 k a0 t385 0 0) = some r := H
  have A2 := Aside0.mk A20
  clear A20
  have H' := Aside0.mk H
  clear H
  go_enter Try.func7, Try.ntmps7
  go_wp2_with (first | (go_at_call 12; (with_reducible refine (lines_Lines.calls a0 t385 _ A2.out).mono ?_); rintro e w3 ⟨v386, rfl, ho0, hb⟩; have n0_ := Aside0.mk (Kd.R_lower ho0 (below_size (by repeat (first | (with_reducible first | exact HB.out | apply below_alloc | apply pw_below_drewN | apply below_drew1) | exact HB.out)))); have n1_ := Aside0.mk (below_step (by repeat (first | (with_reducible first | exact HB.out | apply below_alloc | apply pw_below_drewN | apply below_drew1) | exact HB.out)) hb); clear HB; have HO387 := n0_; have HB := n1_; clear n0_ n1_; (try clear hb); (try clear hb2); (try clear hk); (try clear hi); (try clear ho0)))
  repeat (go_quiet (first | (go_at_call 12; (with_reducible refine (lines_Lines.calls a0 t385 _ A2.out).mono ?_); rintro e w3 ⟨v386, rfl, ho0, hb⟩; have n0_ := Aside0.mk (Kd.R_lower ho0 (below_size (by repeat (first | (with_reducible first | exact HB.out | apply below_alloc | apply pw_below_drewN | apply below_drew1) | exact HB.out)))); have n1_ := Aside0.mk (below_step (by repeat (first | (with_reducible first | exact HB.out | apply below_alloc | apply pw_below_drewN | apply below_drew1) | exact HB.out)) hb); clear HB; have HO387 := n0_; have HB := n1_; clear n0_ n1_; (try clear hb); (try clear hb2); (try clear hk); (try clear hi); (try clear ho0))); try go_wp2_with (first | (go_at_call 12; (with_reducible refine (lines_Lines.calls a0 t385 _ A2.out).mono ?_); rintro e w3 ⟨v386, rfl, ho0, hb⟩; have n0_ := Aside0.mk (Kd.R_lower ho0 (below_size (by repeat (first | (with_reducible first | exact HB.out | apply below_alloc | apply pw_below_drewN | apply below_drew1) | exact HB.out)))); have n1_ := Aside0.mk (below_step (by repeat (first | (with_reducible first | exact HB.out | apply below_alloc | apply pw_below_drewN | apply below_drew1) | exact HB.out)) hb); clear HB; have HO387 := n0_; have HB := n1_; clear n0_ n1_; (try clear hb); (try clear hb2); (try clear hk); (try clear hi); (try clear ho0))))
  go_loopg [4, 5] k (fun kq v4 v5 w' => ∃ (x4_1 : Int) (x5_1 : Int), v4 = .int .i64 x4_1 ∧ v5 = .int .i64 x5_1 ∧ Aside0 (winnowlaw13_LinesBack.l0 kq a0 t385 x4_1 x5_1 = some r) ∧ Aside0 (kq ≤ k) ∧ Aside0 (Kd.R Kd.string 9 w' w.heap.size (fun _ => True) v386 t385) ∧ Aside0 (Below w.heap.size w w'))
  case atStart => exact ⟨(0), (0), (by first | rfl | (simp; done) | (simp [*]; done)), (by first | rfl | (simp; done) | (simp [*]; done)), H', ⟨Nat.le_refl _⟩, ⟨by (with_reducible repeat (first | apply Kd.R_alloc | apply Kd.R_drewN | apply Kd.R_drew)); exact HO387.out⟩, ⟨by repeat (first | (with_reducible first | exact HB.out | apply below_alloc | apply pw_below_drewN | apply below_drew1) | exact HB.out)⟩⟩
  case round =>
    clear H'
    try clear p2
    obtain ⟨x4_1, x5_1, rfl, rfl, HA, HK1, HO_3, HB⟩ := hrel
    cases gk with
    | zero => exact absurd HA.out (by simp [winnowlaw13_LinesBack.l0])
    | succ k1 =>
      have H := HA.out
      clear HA
      simp only [winnowlaw13_LinesBack.l0] at H
      by_cases c4 : x5_1 < (t385.length : Int)
      · rw [if_pos c4] at H
        have c4b0 : decide (x5_1 < (t385.length : Int)) = true := decide_eq_true c4
        clear c4
        have HC5 := Aside0.mk H
        clear H
        obtain ⟨Ao6, co6, eo6⟩ := Kd.R_slice HO_3.out
        subst eo6
        go_upto_region 6 with (fail)
        repeat (go_quiet (fail); go_upto_region 6 with (fail))
        go_cut [41] (fun v41 wc => ∃ (kq : Nat) (x41_4 : Bool), v41 = .bool x41_4 ∧ Aside0 (winnowlaw13_LinesBack.j1 kq a0 t385 x4_1 x5_1 x41_4 = some r) ∧ Aside0 (kq ≤ k1) ∧ Aside0 (Kd.R Kd.string 9 wc w.heap.size (fun _ => True) (.slice Ao6 t385.length co6) t385) ∧ Aside0 (Below w.heap.size w wc))
        case first =>
          have H := HC5.out
          clear HC5
          by_cases c7 : 0 ≤ x5_1
          · rw [if_pos c7] at H
            have c7b0 : decide (0 ≤ x5_1) = true := decide_eq_true c7
            clear c7
            (first | rw [c7b0] | (simp only [i64_w, i32_w]; rw [c7b0]) | skip)
            by_cases c8 : (wrap64 (x4_1 + ((rdOf ByteArray.empty t385 x5_1).size : Int))) > (a0.size : Int)
            · rw [if_pos c8] at H
              have c8b0 : decide ((a0.size : Int) < (wrap64 (x4_1 + ((rdOf ByteArray.empty t385 x5_1).size : Int)))) = true := decide_eq_true c8
              clear c8
              have H' := Aside0.mk H
              clear H
              have p389 : 0 ≤ (x5_1 : Int) := of_decide_eq_true (by first | (with_reducible assumption) | assumption)
              have q389 : x5_1 < (t385.length : Int) := of_decide_eq_true (by first | (with_reducible assumption) | assumption)
              obtain ⟨ad389, e389, hx389_0⟩ := Kd.at_string (Kd.R_reads' HO_3.out).2.2 x5_1 p389 q389
              cases e389
              replace p389 := eq_true p389
              replace q389 := eq_true q389
              go_wp2
              repeat (go_quiet (fail); try go_wp2)
              go_meet
              case rel => exact ⟨_, (true), (by first | rfl | (simp; done) | (simp [*]; done)), H', ⟨by have := HK1.out; first | omega | exact Nat.le_refl _⟩, ⟨by (with_reducible repeat (first | apply Kd.R_alloc | apply Kd.R_drewN | apply Kd.R_drew)); exact HO_3.out⟩, ⟨by repeat (first | (with_reducible first | exact HB.out | apply below_alloc | apply pw_below_drewN | apply below_drew1) | exact HB.out)⟩⟩
            · rw [if_neg c8] at H
              have c8b0 : decide ((a0.size : Int) < (wrap64 (x4_1 + ((rdOf ByteArray.empty t385 x5_1).size : Int)))) = false := decide_eq_false c8
              clear c8
              by_cases c9 : 0 ≤ x4_1
              · rw [if_pos c9] at H
                have c9b0 := eq_true c9
                have c9b1 : decide (0 ≤ x4_1) = true := decide_eq_true c9
                clear c9
                by_cases c10 : x4_1 ≤ (wrap64 (x4_1 + ((rdOf ByteArray.empty t385 x5_1).size : Int)))
                · rw [if_pos c10] at H
                  have c10b0 := eq_true c10
                  have c10b1 : decide (x4_1 ≤ (wrap64 (x4_1 + ((rdOf ByteArray.empty t385 x5_1).size : Int)))) = true := decide_eq_true c10
                  by_cases c11 : (wrap64 (x4_1 + ((rdOf ByteArray.empty t385 x5_1).size : Int))) ≤ (a0.size : Int)
                  · rw [if_pos c11] at H
                    have c11b0 := eq_true c11
                    have c11b1 : decide ((wrap64 (x4_1 + ((rdOf ByteArray.empty t385 x5_1).size : Int))) ≤ (a0.size : Int)) = true := decide_eq_true c11
                    have H' := Aside0.mk H
                    clear H
                    have p389 : 0 ≤ (x5_1 : Int) := of_decide_eq_true (by first | (with_reducible assumption) | assumption)
                    have q389 : x5_1 < (t385.length : Int) := of_decide_eq_true (by first | (with_reducible assumption) | assumption)
                    obtain ⟨ad389, e389, hx389_0⟩ := Kd.at_string (Kd.R_reads' HO_3.out).2.2 x5_1 p389 q389
                    cases e389
                    replace p389 := eq_true p389
                    replace q389 := eq_true q389
                    have p390 : 0 ≤ (x5_1 : Int) := of_decide_eq_true (by first | (with_reducible assumption) | assumption)
                    have q390 : x5_1 < (t385.length : Int) := of_decide_eq_true (by first | (with_reducible assumption) | assumption)
                    obtain ⟨ad390, e390, hx390_0⟩ := Kd.at_string (Kd.R_reads' HO_3.out).2.2 x5_1 p390 q390
                    obtain rfl : ad389 = ad390 := (by injection e390)
                    replace p390 := eq_true p390
                    replace q390 := eq_true q390
                    have p391 : 0 ≤ (x5_1 : Int) := of_decide_eq_true (by first | (with_reducible assumption) | assumption)
                    have q391 : x5_1 < (t385.length : Int) := of_decide_eq_true (by first | (with_reducible assumption) | assumption)
                    obtain ⟨ad391, e391, hx391_0⟩ := Kd.at_string (Kd.R_reads' HO_3.out).2.2 x5_1 p391 q391
                    obtain rfl : ad389 = ad391 := (by injection e391)
                    replace p391 := eq_true p391
                    replace q391 := eq_true q391
                    go_wp2
                    repeat (go_quiet (fail); try go_wp2)
                    go_meet
                    case rel => exact ⟨_, (((a0.extract (x4_1 : Int).toNat ((wrap64 (x4_1 + ((rdOf ByteArray.empty t385 x5_1).size : Int))) : Int).toNat).toList != (rdOf ByteArray.empty t385 x5_1).toList)), (by first | rfl | (simp; done) | (simp [*]; done)), H', ⟨by have := HK1.out; first | omega | exact Nat.le_refl _⟩, ⟨by (with_reducible repeat (first | apply Kd.R_alloc | apply Kd.R_drewN | apply Kd.R_drew)); exact HO_3.out⟩, ⟨by repeat (first | (with_reducible first | exact HB.out | apply below_alloc | apply pw_below_drewN | apply below_drew1) | exact HB.out)⟩⟩
                  · rw [if_neg c11] at H
                    exact absurd H (by simp)
                · rw [if_neg c10] at H
                  exact absurd H (by simp)
              · rw [if_neg c9] at H
                exact absurd H (by simp)
          · rw [if_neg c7] at H
            exact absurd H (by simp)
        case rest =>
          clear HC5
          try clear c1
          try clear p2
          try clear p3
          try clear q3
          try clear hx3
          try clear c4
          try clear c4b0
          try clear p6
          try clear c7
          try clear c7b0
          try clear c8
          try clear c8b0
          try clear c9
          try clear c9b0
          try clear c9b1
          try clear c10
          try clear c10b0
          try clear c10b1
          try clear c11
          try clear c11b0
          try clear c11b1
          try clear hx389_0
          try clear hx390_0
          try clear hx391_0
          try clear p2
          try clear p389
          try clear p390
          try clear p391
          try clear q389
          try clear q390
          try clear q391
          obtain ⟨kq, x41_4, rfl, HA, HJ4, HO_3, HB⟩ := hcut
          cases kq with
          | zero => exact absurd HA.out (by simp [winnowlaw13_LinesBack.j1])
          | succ kj4 =>
            have H := HA.out
            clear HA
            simp only [winnowlaw13_LinesBack.j1] at H
            by_cases c12 : x41_4 = true
            · subst c12
              have H1 : (some false) = some r := by rw [if_pos rfl] at H; exact H
              clear H
              have H := H1
              clear H1
              obtain rfl := Option.some.inj H
              go_wp2
              repeat (go_quiet (fail); try go_wp2)
              go_ret
              exact ⟨by first | rfl | (simp [errW_none, errW_some] <;> rfl) | (simp [*, errW_none, errW_some] <;> rfl), by repeat (first | (with_reducible first | exact HB.out | apply below_alloc | apply pw_below_drewN | apply below_drew1) | exact HB.out)⟩
            · replace c12 := Bool.eq_false_iff.mpr c12
              subst c12
              have H1 : (winnowlaw13_LinesBack.l1 kj4 a0 t385 x4_1 x5_1 0) = some r := by rw [if_neg (show ¬ (false = true) by decide)] at H; exact H
              clear H
              have H := H1
              clear H1
              have H' := Aside0.mk H
              clear H
              go_wp2
              repeat (go_quiet (fail); try go_wp2)
              go_loopg [6] kj4 (fun kq v6 w' => ∃ (x6_3 : Int), v6 = .int .i64 x6_3 ∧ Aside0 (winnowlaw13_LinesBack.l1 kq a0 t385 x4_1 x5_1 x6_3 = some r) ∧ Aside0 (kq ≤ kj4) ∧ Aside0 (Kd.R Kd.string 9 w' w.heap.size (fun _ => True) (.slice Ao6 t385.length co6) t385) ∧ Aside0 (Below w.heap.size w w'))
              case atStart => exact ⟨(0), (by first | rfl | (simp; done) | (simp [*]; done)), H', ⟨Nat.le_refl _⟩, ⟨by (with_reducible repeat (first | apply Kd.R_alloc | apply Kd.R_drewN | apply Kd.R_drew)); exact HO_3.out⟩, ⟨by repeat (first | (with_reducible first | exact HB.out | apply below_alloc | apply pw_below_drewN | apply below_drew1) | exact HB.out)⟩⟩
              case round =>
                clear H'
                try clear c1
                try clear p2
                try clear p3
                try clear q3
                try clear hx3
                try clear c4
                try clear c4b0
                try clear p6
                try clear c7
                try clear c7b0
                try clear c8
                try clear c8b0
                try clear c9
                try clear c9b0
                try clear c9b1
                try clear c10
                try clear c10b0
                try clear c10b1
                try clear c11
                try clear c11b0
                try clear c11b1
                try clear c12
                try clear hx389_0
                try clear hx390_0
                try clear hx391_0
                try clear p2
                try clear p3
                try clear p389
                try clear p390
                try clear p391
                try clear p6
                try clear q3
                try clear q389
                try clear q390
                try clear q391
                obtain ⟨x6_3, rfl, HA, HK3, HO_3, HB⟩ := hrel
                cases gk with
                | zero => exact absurd HA.out (by simp [winnowlaw13_LinesBack.l1])
                | succ k3 =>
                  have H := HA.out
                  clear HA
                  simp only [winnowlaw13_LinesBack.l1] at H
                  by_cases c13 : 0 ≤ x5_1
                  · rw [if_pos c13] at H
                    have c13b0 : decide (0 ≤ x5_1) = true := decide_eq_true c13
                    clear c13
                    by_cases c14 : x5_1 < (t385.length : Int)
                    · rw [if_pos c14] at H
                      have c14b0 : decide (x5_1 < (t385.length : Int)) = true := decide_eq_true c14
                      clear c14
                      by_cases c15 : x6_3 < ((rdOf ByteArray.empty t385 x5_1).size : Int)
                      · rw [if_pos c15] at H
                        have c15b0 : decide (x6_3 < ((rdOf ByteArray.empty t385 x5_1).size : Int)) = true := decide_eq_true c15
                        clear c15
                        by_cases c16 : 0 ≤ x6_3
                        · rw [if_pos c16] at H
                          have c16b0 : decide (0 ≤ x6_3) = true := decide_eq_true c16
                          clear c16
                          by_cases c18 : (bt (rdOf ByteArray.empty t385 x5_1) x6_3) = 10
                          · rw [if_pos c18] at H
                            have c18b0 : ((bt (rdOf ByteArray.empty t385 x5_1) x6_3) == 10) = true := beq_iff_eq.mpr c18
                            have c18b1 : ((bt (rdOf ByteArray.empty t385 x5_1) x6_3) != 10) = false := bne_eq_false_iff_eq.mpr c18
                            clear c18
                            obtain rfl := Option.some.inj H
                            have p392 : 0 ≤ (x5_1 : Int) := of_decide_eq_true (by first | (with_reducible assumption) | assumption)
                            have q392 : x5_1 < (t385.length : Int) := of_decide_eq_true (by first | (with_reducible assumption) | assumption)
                            obtain ⟨ad392, e392, hx392_0⟩ := Kd.at_string (Kd.R_reads' HO_3.out).2.2 x5_1 p392 q392
                            cases e392
                            replace p392 := eq_true p392
                            replace q392 := eq_true q392
                            have p393 : 0 ≤ (x5_1 : Int) := of_decide_eq_true (by first | (with_reducible assumption) | assumption)
                            have q393 : x5_1 < (t385.length : Int) := of_decide_eq_true (by first | (with_reducible assumption) | assumption)
                            obtain ⟨ad393, e393, hx393_0⟩ := Kd.at_string (Kd.R_reads' HO_3.out).2.2 x5_1 p393 q393
                            obtain rfl : ad392 = ad393 := (by injection e393)
                            replace p393 := eq_true p393
                            replace q393 := eq_true q393
                            have p17 : 0 ≤ (x6_3 : Int) := of_decide_eq_true (by first | (with_reducible assumption) | assumption)
                            have q17 : x6_3 < ((rdOf ByteArray.empty t385 x5_1).size : Int) := of_decide_eq_true (by first | (with_reducible assumption) | assumption)
                            have hx17 := bt_at (rdOf ByteArray.empty t385 x5_1) x6_3
                            replace p17 := eq_true p17
                            replace q17 := eq_true q17
                            go_wp2
                            repeat (go_quiet (fail); try go_wp2)
                            go_ret
                            exact ⟨by first | rfl | (simp [errW_none, errW_some] <;> rfl) | (simp [*, errW_none, errW_some] <;> rfl), by repeat (first | (with_reducible first | exact HB.out | apply below_alloc | apply pw_below_drewN | apply below_drew1) | exact HB.out)⟩
                          · rw [if_neg c18] at H
                            have c18b0 : ((bt (rdOf ByteArray.empty t385 x5_1) x6_3) == 10) = false := beq_eq_false_iff_ne.mpr c18
                            have c18b1 : ((bt (rdOf ByteArray.empty t385 x5_1) x6_3) != 10) = true := bne_iff_ne.mpr c18
                            have H' := Aside0.mk H
                            clear H
                            have p392 : 0 ≤ (x5_1 : Int) := of_decide_eq_true (by first | (with_reducible assumption) | assumption)
                            have q392 : x5_1 < (t385.length : Int) := of_decide_eq_true (by first | (with_reducible assumption) | assumption)
                            obtain ⟨ad392, e392, hx392_0⟩ := Kd.at_string (Kd.R_reads' HO_3.out).2.2 x5_1 p392 q392
                            cases e392
                            replace p392 := eq_true p392
                            replace q392 := eq_true q392
                            have p393 : 0 ≤ (x5_1 : Int) := of_decide_eq_true (by first | (with_reducible assumption) | assumption)
                            have q393 : x5_1 < (t385.length : Int) := of_decide_eq_true (by first | (with_reducible assumption) | assumption)
                            obtain ⟨ad393, e393, hx393_0⟩ := Kd.at_string (Kd.R_reads' HO_3.out).2.2 x5_1 p393 q393
                            obtain rfl : ad392 = ad393 := (by injection e393)
                            replace p393 := eq_true p393
                            replace q393 := eq_true q393
                            have p17 : 0 ≤ (x6_3 : Int) := of_decide_eq_true (by first | (with_reducible assumption) | assumption)
                            have q17 : x6_3 < ((rdOf ByteArray.empty t385 x5_1).size : Int) := of_decide_eq_true (by first | (with_reducible assumption) | assumption)
                            have hx17 := bt_at (rdOf ByteArray.empty t385 x5_1) x6_3
                            replace p17 := eq_true p17
                            replace q17 := eq_true q17
                            go_wp2
                            repeat (go_quiet (fail); try go_wp2)
                            go_roundg k3
                            case measure => have := HK1.out; have := HJ4.out; have := HK3.out; omega
                            case rel => exact ⟨(wrap64 (x6_3 + 1)), (by first | rfl | (simp; done) | (simp [*]; done)), H', ⟨by have := HK1.out; have := HJ4.out; have := HK3.out; omega⟩, ⟨by (with_reducible repeat (first | apply Kd.R_alloc | apply Kd.R_drewN | apply Kd.R_drew)); exact HO_3.out⟩, ⟨by repeat (first | (with_reducible first | exact HB.out | apply below_alloc | apply pw_below_drewN | apply below_drew1) | exact HB.out)⟩⟩
                        · rw [if_neg c16] at H
                          exact absurd H (by simp)
                      · rw [if_neg c15] at H
                        have c15b0 : decide (x6_3 < ((rdOf ByteArray.empty t385 x5_1).size : Int)) = false := decide_eq_false c15
                        clear c15
                        by_cases c19 : (wrap64 (x4_1 + ((rdOf ByteArray.empty t385 x5_1).size : Int))) = (a0.size : Int)
                        · rw [if_pos c19] at H
                          have c19b0 : ((wrap64 (x4_1 + ((rdOf ByteArray.empty t385 x5_1).size : Int))) == (a0.size : Int)) = true := beq_iff_eq.mpr c19
                          have c19b1 : ((wrap64 (x4_1 + ((rdOf ByteArray.empty t385 x5_1).size : Int))) != (a0.size : Int)) = false := bne_eq_false_iff_eq.mpr c19
                          clear c19
                          by_cases c20 : x5_1 = (wrap64 ((t385.length : Int) - 1))
                          · rw [if_pos c20] at H
                            have c20b0 : (x5_1 == (wrap64 ((t385.length : Int) - 1))) = true := beq_iff_eq.mpr c20
                            have c20b1 : (x5_1 != (wrap64 ((t385.length : Int) - 1))) = false := bne_eq_false_iff_eq.mpr c20
                            clear c20
                            by_cases c21 : ((rdOf ByteArray.empty t385 x5_1).size : Int) > 0
                            · rw [if_pos c21] at H
                              have c21b0 : decide (0 < ((rdOf ByteArray.empty t385 x5_1).size : Int)) = true := decide_eq_true c21
                              have c21b1 : decide (0 < (rdOf ByteArray.empty t385 x5_1).size) = true := decide_eq_true (by omega)
                              clear c21
                              replace H := Option.bind_eq_some_iff.mp H
                              obtain ⟨t396, A220, H⟩ := H
                              replace H : (some t396) = some r := H
                              have A22 := Aside0.mk A220
                              clear A220
                              obtain rfl := Option.some.inj H
                              have p392 : 0 ≤ (x5_1 : Int) := of_decide_eq_true (by first | (with_reducible assumption) | assumption)
                              have q392 : x5_1 < (t385.length : Int) := of_decide_eq_true (by first | (with_reducible assumption) | assumption)
                              obtain ⟨ad392, e392, hx392_0⟩ := Kd.at_string (Kd.R_reads' HO_3.out).2.2 x5_1 p392 q392
                              cases e392
                              replace p392 := eq_true p392
                              replace q392 := eq_true q392
                              have p394 : 0 ≤ (x5_1 : Int) := of_decide_eq_true (by first | (with_reducible assumption) | assumption)
                              have q394 : x5_1 < (t385.length : Int) := of_decide_eq_true (by first | (with_reducible assumption) | assumption)
                              obtain ⟨ad394, e394, hx394_0⟩ := Kd.at_string (Kd.R_reads' HO_3.out).2.2 x5_1 p394 q394
                              obtain rfl : ad392 = ad394 := (by injection e394)
                              replace p394 := eq_true p394
                              replace q394 := eq_true q394
                              have p395 : 0 ≤ (x5_1 : Int) := of_decide_eq_true (by first | (with_reducible assumption) | assumption)
                              have q395 : x5_1 < (t385.length : Int) := of_decide_eq_true (by first | (with_reducible assumption) | assumption)
                              obtain ⟨ad395, e395, hx395_0⟩ := Kd.at_string (Kd.R_reads' HO_3.out).2.2 x5_1 p395 q395
                              obtain rfl : ad392 = ad395 := (by injection e395)
                              replace p395 := eq_true p395
                              replace q395 := eq_true q395
                              go_wp2_with (first | (go_at_call 27; (with_reducible refine (winnowlaw13_works.calls  t396 _ A22.out).mono ?_); rintro e w23 ⟨rfl, hb⟩; have n0_ := Aside0.mk (Kd.R_below (by (with_reducible repeat (first | apply Kd.R_alloc | apply Kd.R_drewN | apply Kd.R_drew)); exact HO_3.out) hb); have n1_ := Aside0.mk (below_step (by repeat (first | (with_reducible first | exact HB.out | apply below_alloc | apply pw_below_drewN | apply below_drew1) | exact HB.out)) hb); clear HO_3; clear HB; have HO_3 := n0_; have HB := n1_; clear n0_ n1_; (try clear hb); (try clear hb2); (try clear hk); (try clear hi)))
                              repeat (go_quiet (first | (go_at_call 27; (with_reducible refine (winnowlaw13_works.calls  t396 _ A22.out).mono ?_); rintro e w23 ⟨rfl, hb⟩; have n0_ := Aside0.mk (Kd.R_below (by (with_reducible repeat (first | apply Kd.R_alloc | apply Kd.R_drewN | apply Kd.R_drew)); exact HO_3.out) hb); have n1_ := Aside0.mk (below_step (by repeat (first | (with_reducible first | exact HB.out | apply below_alloc | apply pw_below_drewN | apply below_drew1) | exact HB.out)) hb); clear HO_3; clear HB; have HO_3 := n0_; have HB := n1_; clear n0_ n1_; (try clear hb); (try clear hb2); (try clear hk); (try clear hi))); try go_wp2_with (first | (go_at_call 27; (with_reducible refine (winnowlaw13_works.calls  t396 _ A22.out).mono ?_); rintro e w23 ⟨rfl, hb⟩; have n0_ := Aside0.mk (Kd.R_below (by (with_reducible repeat (first | apply Kd.R_alloc | apply Kd.R_drewN | apply Kd.R_drew)); exact HO_3.out) hb); have n1_ := Aside0.mk (below_step (by repeat (first | (with_reducible first | exact HB.out | apply below_alloc | apply pw_below_drewN | apply below_drew1) | exact HB.out)) hb); clear HO_3; clear HB; have HO_3 := n0_; have HB := n1_; clear n0_ n1_; (try clear hb); (try clear hb2); (try clear hk); (try clear hi))))
                              go_ret
                              exact ⟨by first | rfl | (simp [errW_none, errW_some] <;> rfl) | (simp [*, errW_none, errW_some] <;> rfl), by repeat (first | (with_reducible first | exact HB.out | apply below_alloc | apply pw_below_drewN | apply below_drew1) | exact HB.out)⟩
                            · rw [if_neg c21] at H
                              have c21b0 : decide (0 < ((rdOf ByteArray.empty t385 x5_1).size : Int)) = false := decide_eq_false c21
                              have c21b1 : decide (0 < (rdOf ByteArray.empty t385 x5_1).size) = false := decide_eq_false (by omega)
                              clear c21
                              obtain rfl := Option.some.inj H
                              have p392 : 0 ≤ (x5_1 : Int) := of_decide_eq_true (by first | (with_reducible assumption) | assumption)
                              have q392 : x5_1 < (t385.length : Int) := of_decide_eq_true (by first | (with_reducible assumption) | assumption)
                              obtain ⟨ad392, e392, hx392_0⟩ := Kd.at_string (Kd.R_reads' HO_3.out).2.2 x5_1 p392 q392
                              cases e392
                              replace p392 := eq_true p392
                              replace q392 := eq_true q392
                              have p394 : 0 ≤ (x5_1 : Int) := of_decide_eq_true (by first | (with_reducible assumption) | assumption)
                              have q394 : x5_1 < (t385.length : Int) := of_decide_eq_true (by first | (with_reducible assumption) | assumption)
                              obtain ⟨ad394, e394, hx394_0⟩ := Kd.at_string (Kd.R_reads' HO_3.out).2.2 x5_1 p394 q394
                              obtain rfl : ad392 = ad394 := (by injection e394)
                              replace p394 := eq_true p394
                              replace q394 := eq_true q394
                              have p395 : 0 ≤ (x5_1 : Int) := of_decide_eq_true (by first | (with_reducible assumption) | assumption)
                              have q395 : x5_1 < (t385.length : Int) := of_decide_eq_true (by first | (with_reducible assumption) | assumption)
                              obtain ⟨ad395, e395, hx395_0⟩ := Kd.at_string (Kd.R_reads' HO_3.out).2.2 x5_1 p395 q395
                              obtain rfl : ad392 = ad395 := (by injection e395)
                              replace p395 := eq_true p395
                              replace q395 := eq_true q395
                              go_wp2
                              repeat (go_quiet (fail); try go_wp2)
                              go_ret
                              exact ⟨by first | rfl | (simp [errW_none, errW_some] <;> rfl) | (simp [*, errW_none, errW_some] <;> rfl), by repeat (first | (with_reducible first | exact HB.out | apply below_alloc | apply pw_below_drewN | apply below_drew1) | exact HB.out)⟩
                          · rw [if_neg c20] at H
                            have c20b0 : (x5_1 == (wrap64 ((t385.length : Int) - 1))) = false := beq_eq_false_iff_ne.mpr c20
                            have c20b1 : (x5_1 != (wrap64 ((t385.length : Int) - 1))) = true := bne_iff_ne.mpr c20
                            obtain rfl := Option.some.inj H
                            have p392 : 0 ≤ (x5_1 : Int) := of_decide_eq_true (by first | (with_reducible assumption) | assumption)
                            have q392 : x5_1 < (t385.length : Int) := of_decide_eq_true (by first | (with_reducible assumption) | assumption)
                            obtain ⟨ad392, e392, hx392_0⟩ := Kd.at_string (Kd.R_reads' HO_3.out).2.2 x5_1 p392 q392
                            cases e392
                            replace p392 := eq_true p392
                            replace q392 := eq_true q392
                            have p394 : 0 ≤ (x5_1 : Int) := of_decide_eq_true (by first | (with_reducible assumption) | assumption)
                            have q394 : x5_1 < (t385.length : Int) := of_decide_eq_true (by first | (with_reducible assumption) | assumption)
                            obtain ⟨ad394, e394, hx394_0⟩ := Kd.at_string (Kd.R_reads' HO_3.out).2.2 x5_1 p394 q394
                            obtain rfl : ad392 = ad394 := (by injection e394)
                            replace p394 := eq_true p394
                            replace q394 := eq_true q394
                            go_wp2
                            repeat (go_quiet (fail); try go_wp2)
                            go_ret
                            exact ⟨by first | rfl | (simp [errW_none, errW_some] <;> rfl) | (simp [*, errW_none, errW_some] <;> rfl), by repeat (first | (with_reducible first | exact HB.out | apply below_alloc | apply pw_below_drewN | apply below_drew1) | exact HB.out)⟩
                        · rw [if_neg c19] at H
                          have c19b0 : ((wrap64 (x4_1 + ((rdOf ByteArray.empty t385 x5_1).size : Int))) == (a0.size : Int)) = false := beq_eq_false_iff_ne.mpr c19
                          have c19b1 : ((wrap64 (x4_1 + ((rdOf ByteArray.empty t385 x5_1).size : Int))) != (a0.size : Int)) = true := bne_iff_ne.mpr c19
                          obtain ⟨ji24, hji24⟩ : ∃ j_ : Int, (wrap64 (x4_1 + ((rdOf ByteArray.empty t385 x5_1).size : Int))) = j_ := ⟨_, rfl⟩
                          replace H : (if 0 ≤ (ji24) then (if (ji24) < (a0.size : Int) then (if (bt a0 (ji24)) = 10 then (winnowlaw13_LinesBack.l0 k3 a0 t385 (wrap64 ((ji24) + 1)) (wrap64 (x5_1 + 1))) else (some false)) else (none)) else (none)) = some r := by first | (rw [hji24] at H; exact H) | (simp only [hji24] at H ⊢; exact H)
                          (try rw [hji24] at c19b0)
                          (try rw [hji24] at c19b1)
                          have hji24w : (IntKind.i64.wrap (x4_1 + ((rdOf ByteArray.empty t385 x5_1).size : Int))) = ji24 := (i64_w _).trans hji24
                          by_cases c25 : 0 ≤ (ji24)
                          · rw [if_pos c25] at H
                            have c25b0 : decide (0 ≤ (ji24)) = true := decide_eq_true c25
                            clear c25
                            by_cases c26 : (ji24) < (a0.size : Int)
                            · rw [if_pos c26] at H
                              have c26b0 : decide ((ji24) < (a0.size : Int)) = true := decide_eq_true c26
                              clear c26
                              by_cases c28 : (bt a0 (ji24)) = 10
                              · rw [if_pos c28] at H
                                have c28b0 : ((bt a0 (ji24)) == 10) = true := beq_iff_eq.mpr c28
                                have c28b1 : ((bt a0 (ji24)) != 10) = false := bne_eq_false_iff_eq.mpr c28
                                clear c28
                                have H' := Aside0.mk H
                                clear H
                                have p392 : 0 ≤ (x5_1 : Int) := of_decide_eq_true (by first | (with_reducible assumption) | assumption)
                                have q392 : x5_1 < (t385.length : Int) := of_decide_eq_true (by first | (with_reducible assumption) | assumption)
                                obtain ⟨ad392, e392, hx392_0⟩ := Kd.at_string (Kd.R_reads' HO_3.out).2.2 x5_1 p392 q392
                                cases e392
                                replace p392 := eq_true p392
                                replace q392 := eq_true q392
                                have p394 : 0 ≤ (x5_1 : Int) := of_decide_eq_true (by first | (with_reducible assumption) | assumption)
                                have q394 : x5_1 < (t385.length : Int) := of_decide_eq_true (by first | (with_reducible assumption) | assumption)
                                obtain ⟨ad394, e394, hx394_0⟩ := Kd.at_string (Kd.R_reads' HO_3.out).2.2 x5_1 p394 q394
                                obtain rfl : ad392 = ad394 := (by injection e394)
                                replace p394 := eq_true p394
                                replace q394 := eq_true q394
                                have p27 : 0 ≤ ((ji24) : Int) := of_decide_eq_true (by first | (with_reducible assumption) | assumption)
                                have q27 : (ji24) < (a0.size : Int) := of_decide_eq_true (by first | (with_reducible assumption) | assumption)
                                have hx27 := bt_at a0 (ji24)
                                replace p27 := eq_true p27
                                replace q27 := eq_true q27
                                go_wp2
                                repeat (go_quiet (fail); try go_wp2)
                                go_roundg k3
                                case measure => have := HK1.out; have := HJ4.out; have := HK3.out; omega
                                case rel => exact ⟨(wrap64 ((ji24) + 1)), (wrap64 (x5_1 + 1)), (by first | rfl | (simp; done) | (simp only [← hji24] <;> (first | rfl | simp)) | (simp [*]; done)), (by first | rfl | (simp; done) | (simp [*]; done)), H', ⟨by have := HK1.out; have := HJ4.out; have := HK3.out; omega⟩, ⟨by (with_reducible repeat (first | apply Kd.R_alloc | apply Kd.R_drewN | apply Kd.R_drew)); exact HO_3.out⟩, ⟨by repeat (first | (with_reducible first | exact HB.out | apply below_alloc | apply pw_below_drewN | apply below_drew1) | exact HB.out)⟩⟩
                              · rw [if_neg c28] at H
                                have c28b0 : ((bt a0 (ji24)) == 10) = false := beq_eq_false_iff_ne.mpr c28
                                have c28b1 : ((bt a0 (ji24)) != 10) = true := bne_iff_ne.mpr c28
                                obtain rfl := Option.some.inj H
                                have p392 : 0 ≤ (x5_1 : Int) := of_decide_eq_true (by first | (with_reducible assumption) | assumption)
                                have q392 : x5_1 < (t385.length : Int) := of_decide_eq_true (by first | (with_reducible assumption) | assumption)
                                obtain ⟨ad392, e392, hx392_0⟩ := Kd.at_string (Kd.R_reads' HO_3.out).2.2 x5_1 p392 q392
                                cases e392
                                replace p392 := eq_true p392
                                replace q392 := eq_true q392
                                have p394 : 0 ≤ (x5_1 : Int) := of_decide_eq_true (by first | (with_reducible assumption) | assumption)
                                have q394 : x5_1 < (t385.length : Int) := of_decide_eq_true (by first | (with_reducible assumption) | assumption)
                                obtain ⟨ad394, e394, hx394_0⟩ := Kd.at_string (Kd.R_reads' HO_3.out).2.2 x5_1 p394 q394
                                obtain rfl : ad392 = ad394 := (by injection e394)
                                replace p394 := eq_true p394
                                replace q394 := eq_true q394
                                have p27 : 0 ≤ ((ji24) : Int) := of_decide_eq_true (by first | (with_reducible assumption) | assumption)
                                have q27 : (ji24) < (a0.size : Int) := of_decide_eq_true (by first | (with_reducible assumption) | assumption)
                                have hx27 := bt_at a0 (ji24)
                                replace p27 := eq_true p27
                                replace q27 := eq_true q27
                                go_wp2
                                repeat (go_quiet (fail); try go_wp2)
                                go_ret
                                exact ⟨by first | rfl | (simp [errW_none, errW_some] <;> rfl) | (simp only [← hji24]; first | rfl | (simp [errW_none, errW_some] <;> rfl)) | (simp [*, errW_none, errW_some] <;> rfl), by repeat (first | (with_reducible first | exact HB.out | apply below_alloc | apply pw_below_drewN | apply below_drew1) | exact HB.out)⟩
                            · rw [if_neg c26] at H
                              exact absurd H (by simp)
                          · rw [if_neg c25] at H
                            exact absurd H (by simp)
                    · rw [if_neg c14] at H
                      exact absurd H (by simp)
                  · rw [if_neg c13] at H
                    exact absurd H (by simp)
      · rw [if_neg c4] at H
        have c4b0 : decide (x5_1 < (t385.length : Int)) = false := decide_eq_false c4
        clear c4
        by_cases c29 : x4_1 = (a0.size : Int)
        · rw [if_pos c29] at H
          have c29b0 : (x4_1 == (a0.size : Int)) = true := beq_iff_eq.mpr c29
          have c29b1 : (x4_1 != (a0.size : Int)) = false := bne_eq_false_iff_eq.mpr c29
          clear c29
          replace H := Option.bind_eq_some_iff.mp H
          obtain ⟨t388, A300, H⟩ := H
          replace H : (some t388) = some r := H
          have A30 := Aside0.mk A300
          clear A300
          obtain rfl := Option.some.inj H
          obtain ⟨Ao31, co31, eo31⟩ := Kd.R_slice HO_3.out
          subst eo31
          go_wp2_with (first | (go_at_call 27; (with_reducible refine (winnowlaw13_works.calls  t388 _ A30.out).mono ?_); rintro e w32 ⟨rfl, hb⟩; have n0_ := Aside0.mk (Kd.R_below (by (with_reducible repeat (first | apply Kd.R_alloc | apply Kd.R_drewN | apply Kd.R_drew)); exact HO_3.out) hb); have n1_ := Aside0.mk (below_step (by repeat (first | (with_reducible first | exact HB.out | apply below_alloc | apply pw_below_drewN | apply below_drew1) | exact HB.out)) hb); clear HO_3; clear HB; have HO_3 := n0_; have HB := n1_; clear n0_ n1_; (try clear hb); (try clear hb2); (try clear hk); (try clear hi)))
          repeat (go_quiet (first | (go_at_call 27; (with_reducible refine (winnowlaw13_works.calls  t388 _ A30.out).mono ?_); rintro e w32 ⟨rfl, hb⟩; have n0_ := Aside0.mk (Kd.R_below (by (with_reducible repeat (first | apply Kd.R_alloc | apply Kd.R_drewN | apply Kd.R_drew)); exact HO_3.out) hb); have n1_ := Aside0.mk (below_step (by repeat (first | (with_reducible first | exact HB.out | apply below_alloc | apply pw_below_drewN | apply below_drew1) | exact HB.out)) hb); clear HO_3; clear HB; have HO_3 := n0_; have HB := n1_; clear n0_ n1_; (try clear hb); (try clear hb2); (try clear hk); (try clear hi))); try go_wp2_with (first | (go_at_call 27; (with_reducible refine (winnowlaw13_works.calls  t388 _ A30.out).mono ?_); rintro e w32 ⟨rfl, hb⟩; have n0_ := Aside0.mk (Kd.R_below (by (with_reducible repeat (first | apply Kd.R_alloc | apply Kd.R_drewN | apply Kd.R_drew)); exact HO_3.out) hb); have n1_ := Aside0.mk (below_step (by repeat (first | (with_reducible first | exact HB.out | apply below_alloc | apply pw_below_drewN | apply below_drew1) | exact HB.out)) hb); clear HO_3; clear HB; have HO_3 := n0_; have HB := n1_; clear n0_ n1_; (try clear hb); (try clear hb2); (try clear hk); (try clear hi))))
          go_ret
          exact ⟨by first | rfl | (simp [errW_none, errW_some] <;> rfl) | (simp [*, errW_none, errW_some] <;> rfl), by repeat (first | (with_reducible first | exact HB.out | apply below_alloc | apply pw_below_drewN | apply below_drew1) | exact HB.out)⟩
        · rw [if_neg c29] at H
          have c29b0 : (x4_1 == (a0.size : Int)) = false := beq_eq_false_iff_ne.mpr c29
          have c29b1 : (x4_1 != (a0.size : Int)) = true := bne_iff_ne.mpr c29
          obtain rfl := Option.some.inj H
          obtain ⟨Ao33, co33, eo33⟩ := Kd.R_slice HO_3.out
          subst eo33
          go_wp2
          repeat (go_quiet (fail); try go_wp2)
          go_ret
          exact ⟨by first | rfl | (simp [errW_none, errW_some] <;> rfl) | (simp [*, errW_none, errW_some] <;> rfl), by repeat (first | (with_reducible first | exact HB.out | apply below_alloc | apply pw_below_drewN | apply below_drew1) | exact HB.out)⟩

end Go.Proofs.Ytbcggfjfgoabpaa.P

end
