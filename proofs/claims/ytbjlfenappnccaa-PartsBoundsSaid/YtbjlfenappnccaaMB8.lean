/- Several texts laid together (wip/tools/merge2.py): Pf13, HKept, HPBounds. -/
import Derived.Test.YtbjlfenappnccaaMB1
import Derived.Test.YtbjlfenappnccaaMB7
import Derived.Test.YtbjlfenappnccaaMB5
import Derived.Outline
import Derived.Test.YtbjlfenappnccaaMB6
section
-- Written by a program of this session (wip/tools/hprint.py, over the kit's printer), not by hand. Lean checks it.
namespace Go.Proofs.Ytbjlfenappnccaa.P
open Go.RowKit Go.Proofs.YtbjlfenappnccaaW.PrintWords Go.Proofs.YtbjlfenappnccaaW.PrintLast Go.Proofs.YtbjlfenappnccaaW.PrintMore
attribute [local go_sem] max2_int min2_int max_two min_two max_three min_three max_four min_four
set_option linter.unusedVariables false
set_option linter.unusedSimpArgs false

/-! ### winnowlaw14_turned: function 13 -/
def winnowlaw14_turned.l0 : Nat → List ByteArray → Int → Option (List ByteArray × List ByteArray)
  | 0, _, _ => none
  | k + 1, x0, x3 => if x3 < (wrap64 ((x0.length : Int) / 2)) then (if 0 ≤ x3 then (if x3 < (x0.length : Int) then (if 0 ≤ (wrap64 ((wrap64 ((x0.length : Int) - 1)) - x3)) then (if (wrap64 ((wrap64 ((x0.length : Int) - 1)) - x3)) < (x0.length : Int) then (winnowlaw14_turned.l0 k ((x0.set (x3 : Int).toNat (rdOf ByteArray.empty x0 (wrap64 ((wrap64 ((x0.length : Int) - 1)) - x3)))).set ((wrap64 ((wrap64 ((x0.length : Int) - 1)) - x3)) : Int).toNat (rdOf ByteArray.empty x0 x3)) (wrap64 (x3 + 1))) else (none)) else (none)) else (none)) else (none)) else (if (x0.length : Int) > 0 then (if 0 ≤ (wrap64 ((x0.length : Int) - 1)) then (if (wrap64 ((x0.length : Int) - 1)) < (x0.length : Int) then (if (rdOf ByteArray.empty x0 (wrap64 ((x0.length : Int) - 1))).size + 1 ≤ 9223372036854775807 then ((some (x0.set ((wrap64 ((x0.length : Int) - 1)) : Int).toNat ((rdOf ByteArray.empty x0 (wrap64 ((x0.length : Int) - 1))) ++ (⟨#[122]⟩ : ByteArray)) : List ByteArray)).bind fun y160 => ((some (([] : List ByteArray) : List ByteArray)).bind fun y161 => (if y161.length + y160.length < 8796093022208 then (some ((y161 ++ y160), y160)) else (none)))) else (none)) else (none)) else (none)) else ((some (([] : List ByteArray) : List ByteArray)).bind fun y167 => (if y167.length + x0.length < 8796093022208 then (some ((y167 ++ x0), x0)) else (none))))
def winnowlaw14_turned.f (k : Nat) (l0 : List ByteArray) : Option (List ByteArray × List ByteArray) := winnowlaw14_turned.l0 k l0 0
theorem winnowlaw14_turned.mono_l : ∀ k, (∀ y0 y1, LeO (winnowlaw14_turned.l0 k y0 y1) (winnowlaw14_turned.l0 (k + 1) y0 y1))
  | 0 => fun _ _ r h => by simp [winnowlaw14_turned.l0] at h
  | k + 1 => by
    have ih0 := winnowlaw14_turned.mono_l k
    · intro y0 y1
      unfold winnowlaw14_turned.l0
      repeat' first
      | (with_reducible exact ih0 _ _)
      | (with_reducible exact LeO.refl _)
      | (with_reducible exact LeO.none _)
      | (with_reducible refine LeO.ite ?_ ?_)
      | (with_reducible refine LeO.bind ?_ (fun _ => ?_))
      | exact ih0 _ _
      | exact LeO.none _
      | refine LeO.ite ?_ ?_
      | refine LeO.bind ?_ (fun _ => ?_)
theorem winnowlaw14_turned.mono : ∀ a0 k, LeO (winnowlaw14_turned.f k a0) (winnowlaw14_turned.f (k + 1) a0) := by
  intro a0 k
  have ih0 := winnowlaw14_turned.mono_l k
  unfold winnowlaw14_turned.f
  repeat' first
      | (with_reducible exact ih0 _ _)
      | (with_reducible exact LeO.refl _)
      | (with_reducible exact LeO.none _)
      | (with_reducible refine LeO.ite ?_ ?_)
      | (with_reducible refine LeO.bind ?_ (fun _ => ?_))
      | exact ih0 _ _
      | exact LeO.none _
      | refine LeO.ite ?_ ?_
      | refine LeO.bind ?_ (fun _ => ?_)
set_option maxHeartbeats 8000000 in
set_option maxRecDepth 100000 in
theorem winnowlaw14_turned.calls (k : Nat) (P0_ : Nat → Prop) (u9000_ : Value) (l0 : List ByteArray) (r1 : List ByteArray) (r2 : List ByteArray) (w0 w : World) (hB : Below w0.heap.size w0 w) (ho0 : Kd.R Kd.string 9 w w0.heap.size P0_ u9000_ l0) (h : winnowlaw14_turned.f k l0 = some (r1, r2)) :
    Calls Try.prog 13 #[u9000_] w fun e w' => ∃ v0_ : Value, e = .returned (v0_) ∧ Kd.R Kd.string 9 w' w0.heap.size (fun k_ => (P0_ k_ ∨ w.heap.size ≤ k_) ∧ some k_ ≠ (u9000_ : Value).ownBlock) v0_ r1 ∧ Kd.R Kd.string 9 w' w0.heap.size (fun k_ => (P0_ k_ ∨ w.heap.size ≤ k_)) u9000_ r2 ∧ Below w0.heap.size w0 w' ∧ Kept w w' (fun k_ => P0_ k_) := by
  have HO0 := Aside0.mk (show Kd.R Kd.string 9 w w0.heap.size (fun k_ => (P0_ k_ ∨ w.heap.size ≤ k_)) u9000_ l0 from Kd.R_mono ho0 (fun k_ hk => (.inl hk)))
  have HK := Aside0.mk (Kept.refl w (fun k_ => P0_ k_))
  have HW0 := Aside0.mk hB.size
  have HB := Aside0.mk hB
  clear hB
  have H : (winnowlaw14_turned.l0 k l0 0) = some (r1, r2) := h
  clear h
  have H' := Aside0.mk H
  clear H
  go_enter Try.func13, Try.ntmps13
  go_wp2
  go_loopg [3] k (fun kq v3 w' => ∃ (x0_1 : List ByteArray) (x3_1 : Int), v3 = .int .i64 x3_1 ∧ Aside0 (winnowlaw14_turned.l0 kq x0_1 x3_1 = some (r1, r2)) ∧ Aside0 (kq ≤ k) ∧ Aside0 (Kd.R Kd.string 9 w' w0.heap.size (fun k_ => (P0_ k_ ∨ w.heap.size ≤ k_)) u9000_ x0_1) ∧ Aside0 (Kept w w' (fun k_ => P0_ k_)) ∧ Aside0 (Below w0.heap.size w0 w'))
  case atStart => exact ⟨(l0), (0), (by first | rfl | (simp; done) | (simp [*]; done)), H', ⟨Nat.le_refl _⟩, ⟨by (with_reducible repeat (first | apply Kd.R_alloc | apply Kd.R_drewN | apply Kd.R_drew)); exact HO0.out⟩, ⟨by repeat (first | (with_reducible first | exact HK.out | apply Kept.alloc | apply Kept.drewN | apply Kept.drew) | exact HK.out)⟩, ⟨by repeat (first | (with_reducible first | exact HB.out | apply below_alloc | apply pw_below_drewN | apply below_drew1) | exact HB.out)⟩⟩
  case round =>
    clear H'
    try clear c1
    obtain ⟨x0_1, x3_1, rfl, HA, HK1, HO_0, HK, HB⟩ := hrel
    cases gk with
    | zero => exact absurd HA.out (by simp [winnowlaw14_turned.l0])
    | succ k1 =>
      have H := HA.out
      clear HA
      simp only [winnowlaw14_turned.l0] at H
      by_cases c2 : x3_1 < (wrap64 ((x0_1.length : Int) / 2))
      · rw [if_pos c2] at H
        have c2b0 : decide (x3_1 < (wrap64 ((x0_1.length : Int) / 2))) = true := decide_eq_true c2
        clear c2
        by_cases c3 : 0 ≤ x3_1
        · rw [if_pos c3] at H
          have c3b0 : decide (0 ≤ x3_1) = true := decide_eq_true c3
          clear c3
          by_cases c4 : x3_1 < (x0_1.length : Int)
          · rw [if_pos c4] at H
            have c4b0 : decide (x3_1 < (x0_1.length : Int)) = true := decide_eq_true c4
            clear c4
            obtain ⟨ji5, hji5⟩ : ∃ j_ : Int, (wrap64 ((wrap64 ((x0_1.length : Int) - 1)) - x3_1)) = j_ := ⟨_, rfl⟩
            replace H : (if 0 ≤ (ji5) then (if (ji5) < (x0_1.length : Int) then (winnowlaw14_turned.l0 k1 ((x0_1.set (x3_1 : Int).toNat (rdOf ByteArray.empty x0_1 (ji5))).set ((ji5) : Int).toNat (rdOf ByteArray.empty x0_1 x3_1)) (wrap64 (x3_1 + 1))) else (none)) else (none)) = some (r1, r2) := by first | (rw [hji5] at H; exact H) | (simp only [hji5] at H ⊢; exact H)
            have hji5w : (IntKind.i64.wrap ((wrap64 ((x0_1.length : Int) - 1)) - x3_1)) = ji5 := (i64_w _).trans hji5
            by_cases c6 : 0 ≤ (ji5)
            · rw [if_pos c6] at H
              have c6b0 : decide (0 ≤ (ji5)) = true := decide_eq_true c6
              clear c6
              by_cases c7 : (ji5) < (x0_1.length : Int)
              · rw [if_pos c7] at H
                have c7b0 : decide ((ji5) < (x0_1.length : Int)) = true := decide_eq_true c7
                clear c7
                obtain ⟨y157, hy157⟩ : ∃ y_ : List ByteArray, y_ = (x0_1.set (x3_1 : Int).toNat (rdOf ByteArray.empty x0_1 (ji5))) := ⟨_, rfl⟩
                replace H : (winnowlaw14_turned.l0 k1 (y157.set ((ji5) : Int).toNat (rdOf ByteArray.empty x0_1 x3_1)) (wrap64 (x3_1 + 1))) = some (r1, r2) := by first | (rw [hy157]; with_reducible exact H) | (have H2_ := (Option.bind_some _ _).symm.trans H; rw [hy157]; with_reducible exact H2_) | (have H2_ := (Option.bind_some _ _).symm.trans H; with_reducible exact H2_) | with_reducible exact H | (rw [hy157]; exact H) | exact H
                have Ny157 := Aside0.mk hy157
                clear hy157
                obtain ⟨y158, hy158⟩ : ∃ y_ : List ByteArray, y_ = (y157.set ((ji5) : Int).toNat (rdOf ByteArray.empty x0_1 x3_1)) := ⟨_, rfl⟩
                replace H : (winnowlaw14_turned.l0 k1 y158 (wrap64 (x3_1 + 1))) = some (r1, r2) := by first | (rw [hy158]; with_reducible exact H) | (have H2_ := (Option.bind_some _ _).symm.trans H; rw [hy158]; with_reducible exact H2_) | (have H2_ := (Option.bind_some _ _).symm.trans H; with_reducible exact H2_) | with_reducible exact H | (rw [hy158]; exact H) | exact H
                have Ny158 := Aside0.mk hy158
                clear hy158
                have H' := Aside0.mk H
                clear H
                obtain ⟨Ao10, co10, eo10⟩ := Kd.R_slice HO_0.out
                subst eo10
                have p155 : 0 ≤ (x3_1 : Int) := of_decide_eq_true (by first | (with_reducible assumption) | assumption)
                have q155 : x3_1 < (x0_1.length : Int) := of_decide_eq_true (by first | (with_reducible assumption) | assumption)
                obtain ⟨ad155, e155, hx155_0⟩ := Kd.at_string (Kd.R_reads' HO_0.out).2.2 x3_1 p155 q155
                cases e155
                replace p155 := eq_true p155
                replace q155 := eq_true q155
                have p156 : 0 ≤ ((ji5) : Int) := of_decide_eq_true (by first | (with_reducible assumption) | assumption)
                have q156 : (ji5) < (x0_1.length : Int) := of_decide_eq_true (by first | (with_reducible assumption) | assumption)
                obtain ⟨ad156, e156, hx156_0⟩ := Kd.at_string (Kd.R_reads' HO_0.out).2.2 (ji5) p156 q156
                obtain rfl : ad155 = ad156 := (by injection e156)
                replace p156 := eq_true p156
                replace q156 := eq_true q156
                have p8 : 0 ≤ (x3_1 : Int) := of_decide_eq_true (by first | (with_reducible assumption) | assumption)
                have q8 : (x3_1 : Int) < ((x0_1.length : Int) : Int) := of_decide_eq_true (by first | (with_reducible assumption) | assumption)
                obtain ⟨go8, co8, eo8, gb8, gl8, cl8, HG8⟩ := Kd.R_form HO_0.out (by omega)
                (first | cases eo8 | (injection eo8 with ea_ en_ ec_; (first | subst ea_ | (injection ea_ with ea_; subst ea_)); subst ec_; clear en_))
                have GB8 := Aside0.mk gb8
                have GG8 := Aside0.mk HG8
                clear gb8 gl8 HG8
                have HMgo8 := Aside0.mk (show (P0_ go8 ∨ w.heap.size ≤ go8) from (HO_0.out.1 _ rfl))
                (first | simp only [add_plain] at hx155_0 | skip)
                (first | simp only [add_plain] at hx156_0 | skip)
                obtain ⟨hx8_0, hf8_0⟩ := Kd.R_celln (⟨#[]⟩ : ByteArray) HO_0.out (x3_1 : Int) p8 q8
                replace p8 := eq_true p8
                replace q8 := eq_true q8
                have HP11 := Kd.R_putg HO_0.out (x3_1 : Int) (rdOf ByteArray.empty x0_1 (ji5))
                go_wp2_with (first | ((with_reducible refine gate_store (t := 9) (p := 26) rfl ?_); refine store_event (t := 9) (p := 26) (v := ?vo_w12) (w1 := (wr.setCell ⟨go8, (x3_1 : Int).toNat, none⟩ (.string (rdOf ByteArray.empty x0_1 (ji5))))) ?hg ?ho ?hn ?hr ?_; (case ho => rfl); (case hg => rfl); (case hn => rfl); (case hr => first | (go_simp; done) | (go_simp; rfl)); intro w12 hw; have hg : wr.grownBy w12 (some go8) := (by rw [hw]; exact HP11.2); have hp_ : Kd.R Kd.string 9 w12 w0.heap.size (fun k_ => (P0_ k_ ∨ w.heap.size ≤ k_)) (.slice (some ⟨go8, 0, none⟩) x0_1.length co10) y157 := (by rw [hw, Ny157.out]; exact HP11.1); clear HP11; have n0_ := Aside0.mk (hp_); have n1_ := Aside0.mk ((by rw [hw]; exact below_set (HB.out) GB8.out : Below w0.heap.size w0 w12)); have n2_ := Aside0.mk (Kept.of_grown (S := (fun k_ => P0_ k_)) hg (by repeat (first | (with_reducible first | exact HK.out | apply Kept.alloc | apply Kept.drewN | apply Kept.drew) | exact HK.out)) (fun k_ e_ => (HO_0.out.1 k_ e_))); clear HO_0; clear HB; clear HK; have HO_0 := n0_; have HB := n1_; have HK := n2_; clear n0_ n1_ n2_; clear hg hw hp_; have p9 : 0 ≤ ((ji5) : Int) := of_decide_eq_true (by first | (with_reducible assumption) | assumption); have q9 : ((ji5) : Int) < ((x0_1.length : Int) : Int) := of_decide_eq_true (by first | (with_reducible assumption) | assumption); obtain ⟨hx9_0, hf9_0⟩ := Kd.R_celln (⟨#[]⟩ : ByteArray) HO_0.out ((ji5) : Int) p9 q9; replace p9 := eq_true p9; replace q9 := eq_true q9; obtain ⟨hy13_, hz13_⟩ := Kd.R_celln (⟨#[]⟩ : ByteArray) HO_0.out ((ji5) : Int) (of_decide_eq_true (by first | (with_reducible assumption) | assumption)) (of_decide_eq_true (by first | (with_reducible assumption) | assumption)); have HP13 := Kd.R_putg HO_0.out ((ji5) : Int) (rdOf ByteArray.empty x0_1 x3_1)) | ((with_reducible refine gate_store (t := 9) (p := 34) rfl ?_); refine store_event (t := 9) (p := 34) (v := ?vo_w14) (w1 := (w12.setCell ⟨go8, ((ji5) : Int).toNat, none⟩ (.string (rdOf ByteArray.empty x0_1 x3_1)))) ?hg ?ho ?hn ?hr ?_; (case ho => rfl); (case hg => rfl); (case hn => rfl); (case hr => first | (go_simp; done) | (go_simp; rfl)); intro w14 hw; have hg : w12.grownBy w14 (some go8) := (by rw [hw]; exact HP13.2); have hp_ : Kd.R Kd.string 9 w14 w0.heap.size (fun k_ => (P0_ k_ ∨ w.heap.size ≤ k_)) (.slice (some ⟨go8, 0, none⟩) x0_1.length co10) y158 := (by rw [hw, Ny158.out]; exact HP13.1); clear HP13; have n0_ := Aside0.mk (hp_); have n1_ := Aside0.mk ((by rw [hw]; exact below_set (HB.out) GB8.out : Below w0.heap.size w0 w14)); have n2_ := Aside0.mk (Kept.of_grown (S := (fun k_ => P0_ k_)) hg (by repeat (first | (with_reducible first | exact HK.out | apply Kept.alloc | apply Kept.drewN | apply Kept.drew) | exact HK.out)) (fun k_ e_ => (HO_0.out.1 k_ e_))); clear HO_0; clear HB; clear HK; have HO_0 := n0_; have HB := n1_; have HK := n2_; clear n0_ n1_ n2_; clear hg hw hp_))
                go_roundg k1
                case measure => have := HK1.out; omega
                case rel => exact ⟨(y158), (wrap64 (x3_1 + 1)), (by first | rfl | (simp; done) | (simp [*]; done)), H', ⟨by have := HK1.out; omega⟩, ⟨by (with_reducible repeat (first | apply Kd.R_alloc | apply Kd.R_drewN | apply Kd.R_drew)); exact HO_0.out⟩, ⟨by repeat (first | (with_reducible first | exact HK.out | apply Kept.alloc | apply Kept.drewN | apply Kept.drew) | exact HK.out)⟩, ⟨by repeat (first | (with_reducible first | exact HB.out | apply below_alloc | apply pw_below_drewN | apply below_drew1) | exact HB.out)⟩⟩
              · rw [if_neg c7] at H
                exact absurd H (by simp)
            · rw [if_neg c6] at H
              exact absurd H (by simp)
          · rw [if_neg c4] at H
            exact absurd H (by simp)
        · rw [if_neg c3] at H
          exact absurd H (by simp)
      · rw [if_neg c2] at H
        have c2b0 : decide (x3_1 < (wrap64 ((x0_1.length : Int) / 2))) = false := decide_eq_false c2
        clear c2
        by_cases c15 : (x0_1.length : Int) > 0
        · rw [if_pos c15] at H
          have c15b0 : decide (0 < (x0_1.length : Int)) = true := decide_eq_true c15
          have c15b1 : decide (0 < x0_1.length) = true := decide_eq_true (by omega)
          clear c15
          obtain ⟨ji16, hji16⟩ : ∃ j_ : Int, (wrap64 ((x0_1.length : Int) - 1)) = j_ := ⟨_, rfl⟩
          replace H : (if 0 ≤ (ji16) then (if (ji16) < (x0_1.length : Int) then (if (rdOf ByteArray.empty x0_1 (ji16)).size + 1 ≤ 9223372036854775807 then ((some (x0_1.set ((ji16) : Int).toNat ((rdOf ByteArray.empty x0_1 (ji16)) ++ (⟨#[122]⟩ : ByteArray)) : List ByteArray)).bind fun y160 => ((some (([] : List ByteArray) : List ByteArray)).bind fun y161 => (if y161.length + y160.length < 8796093022208 then (some ((y161 ++ y160), y160)) else (none)))) else (none)) else (none)) else (none)) = some (r1, r2) := by first | (rw [hji16] at H; exact H) | (simp only [hji16] at H ⊢; exact H)
          have hji16w : (IntKind.i64.wrap ((x0_1.length : Int) - 1)) = ji16 := (i64_w _).trans hji16
          by_cases c17 : 0 ≤ (ji16)
          · rw [if_pos c17] at H
            have c17b0 : decide (0 ≤ (ji16)) = true := decide_eq_true c17
            clear c17
            by_cases c18 : (ji16) < (x0_1.length : Int)
            · rw [if_pos c18] at H
              have c18b0 : decide ((ji16) < (x0_1.length : Int)) = true := decide_eq_true c18
              clear c18
              by_cases c19 : (rdOf ByteArray.empty x0_1 (ji16)).size + 1 ≤ 9223372036854775807
              · rw [if_pos c19] at H
                have c19b0 := eq_true c19
                have c19b1 : decide ((rdOf ByteArray.empty x0_1 (ji16)).size + 1 ≤ 9223372036854775807) = true := decide_eq_true c19
                try have c19b2 : (9223372036854775807 < (rdOf ByteArray.empty x0_1 (ji16)).size + 1) = False := eq_false (Nat.not_lt.2 c19)
                obtain ⟨y160, hy160⟩ : ∃ y_ : List ByteArray, y_ = (x0_1.set ((ji16) : Int).toNat ((rdOf ByteArray.empty x0_1 (ji16)) ++ (⟨#[122]⟩ : ByteArray))) := ⟨_, rfl⟩
                replace H : ((some (([] : List ByteArray) : List ByteArray)).bind fun y161 => (if y161.length + y160.length < 8796093022208 then (some ((y161 ++ y160), y160)) else (none))) = some (r1, r2) := by first | (rw [hy160]; with_reducible exact H) | (have H2_ := (Option.bind_some _ _).symm.trans H; rw [hy160]; with_reducible exact H2_) | (have H2_ := (Option.bind_some _ _).symm.trans H; with_reducible exact H2_) | with_reducible exact H | (rw [hy160]; exact H) | exact H
                have Ny160 := Aside0.mk hy160
                clear hy160
                obtain ⟨y161, hy161⟩ : ∃ y_ : List ByteArray, y_ = (([] : List ByteArray)) := ⟨_, rfl⟩
                replace H : (if y161.length + y160.length < 8796093022208 then (some ((y161 ++ y160), y160)) else (none)) = some (r1, r2) := by first | (rw [hy161]; with_reducible exact H) | (have H2_ := (Option.bind_some _ _).symm.trans H; rw [hy161]; with_reducible exact H2_) | (have H2_ := (Option.bind_some _ _).symm.trans H; with_reducible exact H2_) | with_reducible exact H | (rw [hy161]; exact H) | exact H
                have Ny161 := Aside0.mk hy161
                clear hy161
                by_cases c21 : y161.length + y160.length < 8796093022208
                · rw [if_pos c21] at H
                  have LMc21 := Aside0.mk c21
                  clear c21
                  obtain ⟨y164, hy164⟩ : ∃ y_ : List ByteArray, y_ = (y161 ++ y160) := ⟨_, rfl⟩
                  replace H : (some (y164, y160)) = some (r1, r2) := by first | (rw [hy164]; with_reducible exact H) | (have H2_ := (Option.bind_some _ _).symm.trans H; rw [hy164]; with_reducible exact H2_) | (have H2_ := (Option.bind_some _ _).symm.trans H; with_reducible exact H2_) | with_reducible exact H | (rw [hy164]; exact H) | exact H
                  have Ny164 := Aside0.mk hy164
                  clear hy164
                  simp only [Option.some.injEq, Prod.mk.injEq] at H
                  obtain ⟨rfl, rfl⟩ := H
                  obtain ⟨Ao22, co22, eo22⟩ := Kd.R_slice HO_0.out
                  subst eo22
                  have p159 : 0 ≤ ((ji16) : Int) := of_decide_eq_true (by first | (with_reducible assumption) | assumption)
                  have q159 : (ji16) < (x0_1.length : Int) := of_decide_eq_true (by first | (with_reducible assumption) | assumption)
                  obtain ⟨ad159, e159, hx159_0⟩ := Kd.at_string (Kd.R_reads' HO_0.out).2.2 (ji16) p159 q159
                  cases e159
                  replace p159 := eq_true p159
                  replace q159 := eq_true q159
                  have p20 : 0 ≤ ((ji16) : Int) := of_decide_eq_true (by first | (with_reducible assumption) | assumption)
                  have q20 : ((ji16) : Int) < ((x0_1.length : Int) : Int) := of_decide_eq_true (by first | (with_reducible assumption) | assumption)
                  obtain ⟨go20, co20, eo20, gb20, gl20, cl20, HG20⟩ := Kd.R_form HO_0.out (by omega)
                  (first | cases eo20 | (injection eo20 with ea_ en_ ec_; (first | subst ea_ | (injection ea_ with ea_; subst ea_)); subst ec_; clear en_))
                  have GB20 := Aside0.mk gb20
                  have GG20 := Aside0.mk HG20
                  clear gb20 gl20 HG20
                  have HMgo20 := Aside0.mk (show (P0_ go20 ∨ w.heap.size ≤ go20) from (HO_0.out.1 _ rfl))
                  (first | simp only [add_plain] at hx159_0 | skip)
                  obtain ⟨hx20_0, hf20_0⟩ := Kd.R_celln (⟨#[]⟩ : ByteArray) HO_0.out ((ji16) : Int) p20 q20
                  replace p20 := eq_true p20
                  replace q20 := eq_true q20
                  have HP23 := Kd.R_putg HO_0.out ((ji16) : Int) ((rdOf ByteArray.empty x0_1 (ji16)) ++ (⟨#[122]⟩ : ByteArray))
                  go_wp2_with (first | ((with_reducible refine gate_store (t := 9) (p := 49) rfl ?_); refine store_event (t := 9) (p := 49) (v := ?vo_w24) (w1 := (wr.setCell ⟨go20, ((ji16) : Int).toNat, none⟩ (.string ((rdOf ByteArray.empty x0_1 (ji16)) ++ (⟨#[122]⟩ : ByteArray))))) ?hg ?ho ?hn ?hr ?_; (case ho => rfl); (case hg => rfl); (case hn => rfl); (case hr => first | (go_simp; done) | (go_simp; rfl)); intro w24 hw; have hg : wr.grownBy w24 (some go20) := (by rw [hw]; exact HP23.2); have hp_ : Kd.R Kd.string 9 w24 w0.heap.size (fun k_ => (P0_ k_ ∨ w.heap.size ≤ k_)) (.slice (some ⟨go20, 0, none⟩) x0_1.length co22) y160 := (by rw [hw, Ny160.out]; exact HP23.1); clear HP23; have n0_ := Aside0.mk (hp_); have n1_ := Aside0.mk ((by rw [hw]; exact below_set (HB.out) GB20.out : Below w0.heap.size w0 w24)); have n2_ := Aside0.mk (Kept.of_grown (S := (fun k_ => P0_ k_)) hg (by repeat (first | (with_reducible first | exact HK.out | apply Kept.alloc | apply Kept.drewN | apply Kept.drew) | exact HK.out)) (fun k_ e_ => (HO_0.out.1 k_ e_))); clear HO_0; clear HB; clear HK; have HO_0 := n0_; have HB := n1_; have HK := n2_; clear n0_ n1_ n2_; clear hg hw hp_) | ((with_reducible refine gate_dst (N := 50) rfl ?_); refine Kd.R_lit Kd.string _ 9 ?hg (N := 50) ?hd (xs := ([] : List ByteArray)) (inner := []) (ok := fun _ => True) (okp := fun _ => True) ?hr ?hp (fun _ hk => hk) trivial (Below.refl _ _) (Nat.le_refl _) (by simp) ?_; (case hd => rfl); (case hg => rfl); (case hr => first | (go_simp; done) | (go_simp; rfl)); (case hp => exact (Reps.none _ _)); intro v162 w25 ho26 hb hg_ hnew_; clear hg_ hnew_; (first | rw [← Ny161.out] at ho26 | (simp only [Int.reduceToNat] at ho26; rw [← Ny161.out] at ho26)); have n0_ := Aside0.mk (Kd.R_elder' (by (with_reducible repeat (first | apply Kd.R_alloc | apply Kd.R_drewN | apply Kd.R_drew)); exact HO_0.out) (Kd.R_base ho26) hb); have n1_ := Aside0.mk (Kd.R_lower (Kd.R_new' (Kd.R_newM (M := fun k_ => (P0_ k_ ∨ w.heap.size ≤ k_)) ho26 (by first | exact HK.out.1 | exact (show Kept w _ (fun k_ => P0_ k_) from by repeat (first | (with_reducible first | exact HK.out | apply Kept.alloc | apply Kept.drewN | apply Kept.drew) | exact HK.out)).1) (fun k_ h_ => .inr h_)) (Kd.R_lt (by (with_reducible repeat (first | apply Kd.R_alloc | apply Kd.R_drewN | apply Kd.R_drew)); exact HO_0.out))) (below_size (by repeat (first | (with_reducible first | exact HB.out | apply below_alloc | apply pw_below_drewN | apply below_drew1) | exact HB.out)))); have n2_ := Aside0.mk (Kept.below (S := (fun k_ => P0_ k_)) (by repeat (first | (with_reducible first | exact HK.out | apply Kept.alloc | apply Kept.drewN | apply Kept.drew) | exact HK.out)) hb); have n3_ := Aside0.mk (below_step (by repeat (first | (with_reducible first | exact HB.out | apply below_alloc | apply pw_below_drewN | apply below_drew1) | exact HB.out)) hb); clear HO_0; clear HK; clear HB; have HO_0 := n0_; have HO163 := n1_; have HK := n2_; have HB := n3_; clear n0_ n1_ n2_ n3_; clear hb ho26) | ((with_reducible refine gate_builtin (b := .append) (xs := #[.tmp 50, .tmp 51]) rfl ?_); at_builtin; refine Kd.R_append_rows Kd.string (w0 := w0) w0.heap.size rfl (.tmp 50) (.tmp 51) 24 9 (.string ⟨#[]⟩) 16 rfl Try.underlying24 info9 rfl (by decide) (by omega) v162 y161 y160 _ _ _ (fun k_ => (P0_ k_ ∨ w.heap.size ≤ k_) ∧ some k_ ≠ (.slice (some ⟨go20, 0, none⟩) x0_1.length co22 : Value).ownBlock) (fun _ => False) rfl rfl ?aO ?aR (fun _ _ h => h) (fun _ h => h.elim) ?aF ?aB ?aS ?aL ?_; (case aR => rw [show x0_1.length = y160.length from (Kd.R_reads' HO_0.out).1]; repeat (first | exact (Kd.R_reads' HO_0.out).2.2 | (with_reducible refine Kd.C_alloc ?_ _) | (with_reducible refine Kd.C_drewN ?_ _) | (with_reducible refine Kd.C_drew ?_))); (case aB => exact (by repeat (first | (with_reducible first | exact HB.out | apply below_alloc | apply pw_below_drewN | apply below_drew1) | exact HB.out))); (case aF => exact (fun k_ hk => ⟨(.inr (Nat.le_trans (by first | exact HK.out.1 | exact (show Kept w _ (fun k_ => P0_ k_) from by repeat (first | (with_reducible first | exact HK.out | apply Kept.alloc | apply Kept.drewN | apply Kept.drew) | exact HK.out)).1) hk)), Kd.fresh' (Kd.R_lt (by (with_reducible repeat (first | apply Kd.R_alloc | apply Kd.R_drewN | apply Kd.R_drew)); exact HO_0.out)) k_ hk⟩)); (case aO => exact (by (with_reducible repeat (first | apply Kd.R_alloc | apply Kd.R_drewN | apply Kd.R_drew)); exact Kd.R_mono HO163.out (fun _ hk => ⟨hk.1.1, hk.2⟩))); (case aS => exact (below_size (by repeat (first | (with_reducible first | exact HB.out | apply below_alloc | apply pw_below_drewN | apply below_drew1) | exact HB.out)))); (case aL => have := LMc21.out; have hlx_ := (Kd.R_reads' HO_0.out).1; omega); intro v165 w27 ho hb hg hat; rw [← Ny164.out] at ho; have n0_ := Aside0.mk (Kd.R_after (ok := (fun k_ => (P0_ k_ ∨ w.heap.size ≤ k_))) (by (with_reducible repeat (first | apply Kd.R_alloc | apply Kd.R_drewN | apply Kd.R_drew)); exact HO_0.out) hg hat); have n1_ := Aside0.mk (hb); have n2_ := Aside0.mk (Kept.of_grown (S := (fun k_ => P0_ k_)) hg (by repeat (first | (with_reducible first | exact HK.out | apply Kept.alloc | apply Kept.drewN | apply Kept.drew) | exact HK.out)) (fun k_ e_ => (HO163.out.1 k_ e_).1.1)); have n3_ := Aside0.mk (ho); clear HO_0; clear HB; clear HK; clear HO163; have HO_0 := n0_; have HB := n1_; have HK := n2_; have HO166 := n3_; clear n0_ n1_ n2_ n3_; clear ho hb hg hat))
                  go_ret
                  exact ⟨_, by first | rfl | (simp [errW_none, errW_some] <;> rfl) | (simp only [← hji16]; first | rfl | (simp [errW_none, errW_some] <;> rfl)) | (simp [*, errW_none, errW_some] <;> rfl), by (with_reducible repeat (first | apply Kd.R_alloc | apply Kd.R_drewN | apply Kd.R_drew)); exact HO166.out, by (with_reducible repeat (first | apply Kd.R_alloc | apply Kd.R_drewN | apply Kd.R_drew)); exact Kd.R_mono HO_0.out (fun _ hk => hk.1), by repeat (first | (with_reducible first | exact HB.out | apply below_alloc | apply pw_below_drewN | apply below_drew1) | exact HB.out), by repeat (first | (with_reducible first | exact HK.out | apply Kept.alloc | apply Kept.drewN | apply Kept.drew) | exact HK.out)⟩
                · rw [if_neg c21] at H
                  exact absurd H (by simp)
              · rw [if_neg c19] at H
                exact absurd H (by simp)
            · rw [if_neg c18] at H
              exact absurd H (by simp)
          · rw [if_neg c17] at H
            exact absurd H (by simp)
        · rw [if_neg c15] at H
          have c15b0 : decide (0 < (x0_1.length : Int)) = false := decide_eq_false c15
          have c15b1 : decide (0 < x0_1.length) = false := decide_eq_false (by omega)
          clear c15
          obtain ⟨y167, hy167⟩ : ∃ y_ : List ByteArray, y_ = (([] : List ByteArray)) := ⟨_, rfl⟩
          replace H : (if y167.length + x0_1.length < 8796093022208 then (some ((y167 ++ x0_1), x0_1)) else (none)) = some (r1, r2) := by first | (rw [hy167]; with_reducible exact H) | (have H2_ := (Option.bind_some _ _).symm.trans H; rw [hy167]; with_reducible exact H2_) | (have H2_ := (Option.bind_some _ _).symm.trans H; with_reducible exact H2_) | with_reducible exact H | (rw [hy167]; exact H) | exact H
          have Ny167 := Aside0.mk hy167
          clear hy167
          by_cases c28 : y167.length + x0_1.length < 8796093022208
          · rw [if_pos c28] at H
            have LMc28 := Aside0.mk c28
            clear c28
            obtain ⟨y170, hy170⟩ : ∃ y_ : List ByteArray, y_ = (y167 ++ x0_1) := ⟨_, rfl⟩
            replace H : (some (y170, x0_1)) = some (r1, r2) := by first | (rw [hy170]; with_reducible exact H) | (have H2_ := (Option.bind_some _ _).symm.trans H; rw [hy170]; with_reducible exact H2_) | (have H2_ := (Option.bind_some _ _).symm.trans H; with_reducible exact H2_) | with_reducible exact H | (rw [hy170]; exact H) | exact H
            have Ny170 := Aside0.mk hy170
            clear hy170
            simp only [Option.some.injEq, Prod.mk.injEq] at H
            obtain ⟨rfl, rfl⟩ := H
            obtain ⟨Ao29, co29, eo29⟩ := Kd.R_slice HO_0.out
            subst eo29
            go_wp2_with (first | ((with_reducible refine gate_dst (N := 50) rfl ?_); refine Kd.R_lit Kd.string _ 9 ?hg (N := 50) ?hd (xs := ([] : List ByteArray)) (inner := []) (ok := fun _ => True) (okp := fun _ => True) ?hr ?hp (fun _ hk => hk) trivial (Below.refl _ _) (Nat.le_refl _) (by simp) ?_; (case hd => rfl); (case hg => rfl); (case hr => first | (go_simp; done) | (go_simp; rfl)); (case hp => exact (Reps.none _ _)); intro v168 w30 ho31 hb hg_ hnew_; clear hg_ hnew_; (first | rw [← Ny167.out] at ho31 | (simp only [Int.reduceToNat] at ho31; rw [← Ny167.out] at ho31)); have n0_ := Aside0.mk (Kd.R_elder' (by (with_reducible repeat (first | apply Kd.R_alloc | apply Kd.R_drewN | apply Kd.R_drew)); exact HO_0.out) (Kd.R_base ho31) hb); have n1_ := Aside0.mk (Kd.R_lower (Kd.R_new' (Kd.R_newM (M := fun k_ => (P0_ k_ ∨ w.heap.size ≤ k_)) ho31 (by first | exact HK.out.1 | exact (show Kept w _ (fun k_ => P0_ k_) from by repeat (first | (with_reducible first | exact HK.out | apply Kept.alloc | apply Kept.drewN | apply Kept.drew) | exact HK.out)).1) (fun k_ h_ => .inr h_)) (Kd.R_lt (by (with_reducible repeat (first | apply Kd.R_alloc | apply Kd.R_drewN | apply Kd.R_drew)); exact HO_0.out))) (below_size (by repeat (first | (with_reducible first | exact HB.out | apply below_alloc | apply pw_below_drewN | apply below_drew1) | exact HB.out)))); have n2_ := Aside0.mk (Kept.below (S := (fun k_ => P0_ k_)) (by repeat (first | (with_reducible first | exact HK.out | apply Kept.alloc | apply Kept.drewN | apply Kept.drew) | exact HK.out)) hb); have n3_ := Aside0.mk (below_step (by repeat (first | (with_reducible first | exact HB.out | apply below_alloc | apply pw_below_drewN | apply below_drew1) | exact HB.out)) hb); clear HO_0; clear HK; clear HB; have HO_0 := n0_; have HO169 := n1_; have HK := n2_; have HB := n3_; clear n0_ n1_ n2_ n3_; clear hb ho31) | ((with_reducible refine gate_builtin (b := .append) (xs := #[.tmp 50, .tmp 51]) rfl ?_); at_builtin; refine Kd.R_append_rows Kd.string (w0 := w0) w0.heap.size rfl (.tmp 50) (.tmp 51) 24 9 (.string ⟨#[]⟩) 16 rfl Try.underlying24 info9 rfl (by decide) (by omega) v168 y167 x0_1 _ _ _ (fun k_ => (P0_ k_ ∨ w.heap.size ≤ k_) ∧ some k_ ≠ (.slice Ao29 x0_1.length co29 : Value).ownBlock) (fun _ => False) rfl rfl ?aO ?aR (fun _ _ h => h) (fun _ h => h.elim) ?aF ?aB ?aS ?aL ?_; (case aR => repeat (first | exact (Kd.R_reads' HO_0.out).2.2 | (with_reducible refine Kd.C_alloc ?_ _) | (with_reducible refine Kd.C_drewN ?_ _) | (with_reducible refine Kd.C_drew ?_))); (case aB => exact (by repeat (first | (with_reducible first | exact HB.out | apply below_alloc | apply pw_below_drewN | apply below_drew1) | exact HB.out))); (case aF => exact (fun k_ hk => ⟨(.inr (Nat.le_trans (by first | exact HK.out.1 | exact (show Kept w _ (fun k_ => P0_ k_) from by repeat (first | (with_reducible first | exact HK.out | apply Kept.alloc | apply Kept.drewN | apply Kept.drew) | exact HK.out)).1) hk)), Kd.fresh' (Kd.R_lt (by (with_reducible repeat (first | apply Kd.R_alloc | apply Kd.R_drewN | apply Kd.R_drew)); exact HO_0.out)) k_ hk⟩)); (case aO => exact (by (with_reducible repeat (first | apply Kd.R_alloc | apply Kd.R_drewN | apply Kd.R_drew)); exact Kd.R_mono HO169.out (fun _ hk => ⟨hk.1.1, hk.2⟩))); (case aS => exact (below_size (by repeat (first | (with_reducible first | exact HB.out | apply below_alloc | apply pw_below_drewN | apply below_drew1) | exact HB.out)))); (case aL => have := LMc28.out; omega); intro v171 w32 ho hb hg hat; rw [← Ny170.out] at ho; have n0_ := Aside0.mk (Kd.R_after (ok := (fun k_ => (P0_ k_ ∨ w.heap.size ≤ k_))) (by (with_reducible repeat (first | apply Kd.R_alloc | apply Kd.R_drewN | apply Kd.R_drew)); exact HO_0.out) hg hat); have n1_ := Aside0.mk (hb); have n2_ := Aside0.mk (Kept.of_grown (S := (fun k_ => P0_ k_)) hg (by repeat (first | (with_reducible first | exact HK.out | apply Kept.alloc | apply Kept.drewN | apply Kept.drew) | exact HK.out)) (fun k_ e_ => (HO169.out.1 k_ e_).1.1)); have n3_ := Aside0.mk (ho); clear HO_0; clear HB; clear HK; clear HO169; have HO_0 := n0_; have HB := n1_; have HK := n2_; have HO172 := n3_; clear n0_ n1_ n2_ n3_; clear ho hb hg hat))
            go_ret
            exact ⟨_, by first | rfl | (simp [errW_none, errW_some] <;> rfl) | (simp [*, errW_none, errW_some] <;> rfl), by (with_reducible repeat (first | apply Kd.R_alloc | apply Kd.R_drewN | apply Kd.R_drew)); exact HO172.out, by (with_reducible repeat (first | apply Kd.R_alloc | apply Kd.R_drewN | apply Kd.R_drew)); exact Kd.R_mono HO_0.out (fun _ hk => hk.1), by repeat (first | (with_reducible first | exact HB.out | apply below_alloc | apply pw_below_drewN | apply below_drew1) | exact HB.out), by repeat (first | (with_reducible first | exact HK.out | apply Kept.alloc | apply Kept.drewN | apply Kept.drew) | exact HK.out)⟩
          · rw [if_neg c28] at H
            exact absurd H (by simp)

end Go.Proofs.Ytbjlfenappnccaa.P

end
section
/- kept: the texts stand, and the mark behind them: contract by hand. -/
namespace Go.Proofs.Ytbjlfenappnccaa.P
open Go.RowKit Go.Proofs.YtbjlfenappnccaaW.PrintWords Go.Proofs.YtbjlfenappnccaaW.PrintLast Go.Proofs.YtbjlfenappnccaaW.PrintMore Go.Proofs.Ytbjlfenappnccaa.Hand
set_option linter.unusedVariables false
set_option linter.unusedSimpArgs false

theorem cut_cap {P : Program} (t e : TypeId) (kh : IntKind) {i : TypeInfo} (ht : P.underlying t = some (.slice e)) (hi : P.info? e = some i) (A : Option Addr) (n c : Nat) (j : Int) (h0 : 0 ≤ j) (hm : j ≤ c) (hc : n ≤ c) :
    ∀ W : World, (Instr.slice t (.slice A n c) none (some (.int kh j)) none).run P W = .ok (.slice A j.toNat c) W := by
  intro W
  have hel : P.elem t = e := by simp [Program.elem, ht]
  have hu : P.underlying t = some (.slice (P.elem t)) := by rw [hel]; exact ht
  have ha : (A.map fun x => x.add 0) = A := by cases A <;> simp [Addr.add]
  rw [run_slice_h W t A n c hu kh j h0 (by omega), hel]
  simp [sizeOf, typeInfo, hi, sliced, Result.andThen, ha]
theorem sameT_loop (l : List ByteArray) (hl : l.length ≤ 140737488355328) (d : Nat) : ∀ (k i : Nat), i + d = l.length → d < k → winnowlaw14_sameTexts.l0 k l l (i : Int) = some true := by
  induction d with
  | zero =>
    intro k i hi hk
    obtain ⟨k, rfl⟩ : ∃ m, k = m + 1 := ⟨k - 1, by omega⟩
    rw [winnowlaw14_sameTexts.l0, if_neg (by omega)]
  | succ d ih =>
    intro k i hi hk
    obtain ⟨k, rfl⟩ : ∃ m, k = m + 1 := ⟨k - 1, by omega⟩
    rw [winnowlaw14_sameTexts.l0, if_pos (by omega), if_pos (by omega), if_pos (by omega), if_pos rfl, wrap_succB i (by omega), ih k (i + 1) (by omega) (by omega)]
theorem sameT_eq (l : List ByteArray) (hl : l.length ≤ 140737488355328) (k : Nat) (hk : l.length < k) : winnowlaw14_sameTexts.f k l l = some true := by
  unfold winnowlaw14_sameTexts.f
  rw [if_pos rfl]
  exact sameT_loop l hl l.length k 0 (by omega) hk
def mk_ : ByteArray := ⟨#[109, 97, 114, 107]⟩
set_option maxHeartbeats 4000000 in
theorem kept_any (w : World) (A A1 : Option Addr) (c c1 n : Nat) (l : List ByteArray) (hC : Kd.C Kd.string w A (n + 1) (l ++ [mk_])) (hCn : Kd.C Kd.string w A l.length l) (hc : n + 1 ≤ c) (hn : l.length = n) (hC1 : Kd.C Kd.string w A1 l.length l) (hc1 : n ≤ c1) (hl : n ≤ 140737488351232) :
    Calls Try.prog 12 #[.slice A n c, .slice A1 n c1] w fun e w' => e = .returned (.bool true) ∧ Below w.heap.size w w' := by
  have HSM := Aside0.mk (winnowlaw14_sameTexts.calls (n + 1) A c l A1 c1 l _ w hCn (by omega) hC1 (by omega) (sameT_eq l (by omega) _ (by omega)))
  rw [hn] at HSM
  obtain ⟨ad, e, hx0⟩ := Kd.at_string hC (n : Int) (Int.natCast_nonneg n) (by omega)
  subst e
  rw [rdb_nat _ n (by simp; omega), Int.toNat_natCast] at hx0
  have hm : (l ++ [mk_])[n]'(by simp; omega) = mk_ := by
    rw [List.getElem_append_right (by omega)]
    simp
  rw [hm] at hx0
  have hcut := cut_cap (P := Try.prog) 24 9 .i64 Try.underlying24 (info_parts info9).choose_spec.1 (some ad) n c ((n + 1 : Nat) : Int) (by omega) (by omega) (by omega)
  rw [Int.toNat_natCast] at hcut
  have hw : IntKind.i64.wrap ((n : Int) + 1) = ((n + 1 : Nat) : Int) := by rw [IntKind.wrap_i64]; omega
  have hw2 : wrap64 ((n : Int) + 1) = ((n + 1 : Nat) : Int) := wrap_succB n (by omega)
  have hcut2 : ∀ W : World, (Instr.slice 24 (.slice (some ad) n c) none (some (.int .i64 ((n : Int) + 1))) none).run Try.prog W = .ok (.slice (some ad) (n + 1) c) W := hcut
  have p1 : ((0 : Int) ≤ (n : Int)) = True := eq_true (by omega)
  have p2 : ((0 : Int) ≤ (n : Int) + 1) = True := eq_true (by omega)
  have p3 : ((n : Int) + 1 ≤ (c : Int)) = True := eq_true (by omega)
  have q2 : ((n : Int) < (n : Int) + 1) = True := eq_true (by omega)
  have q3 : (n < n + 1) = True := eq_true (by omega)
  have q1 : ((n : Int) < ((n + 1 : Nat) : Int)) = True := eq_true (by omega)
  have HX0 := Aside0.mk hx0
  clear hC hCn hc hn hC1 hc1 hl hm
  go_enter Try.func12, Try.ntmps12
  go_wp2_with fail
  refine HSM.out.mono ?_
  rintro e w2 ⟨rfl, hD⟩
  have HB := Aside0.mk hD.below
  have hx1 := cell_kept HX0.out (Kept.of_below hD.below (fun _ => False)) (fun h => h)
  clear hD hx0
  go_wp2_with fail
  have hmk : (mk_.toList == ([109, 97, 114, 107] : List UInt8)) = true := by rw [ByteArray.toList_eq]; rfl
  go_ret
  exact ⟨by first | (rw [hmk]; done) | (show Ending.returned (.bool (mk_.toList == ([109, 97, 114, 107] : List UInt8))) = _; rw [hmk]), HB.out⟩
/-! ### turned -/
theorem turned_loop (n : Nat) (hn : n ≤ 8796093021952) (d : Nat) : ∀ (k i : Nat) (l : List ByteArray), i + d = n / 2 → l.length = n → (∀ b ∈ l, b.size ≤ 140737488351232) → d < k → ∃ L : List ByteArray, winnowlaw14_turned.l0 k l (i : Int) = some (L, L) ∧ L.length = n ∧ ∀ b ∈ L, b.size ≤ 140737488351233 := by
  induction d with
  | zero =>
    intro k i l hi hl hx hk
    obtain ⟨k, rfl⟩ : ∃ m, k = m + 1 := ⟨k - 1, by omega⟩
    have hw : wrap64 ((l.length : Int) / 2) = ((n / 2 : Nat) : Int) := by unfold wrap64; omega
    rw [winnowlaw14_turned.l0, hw, if_neg (by omega)]
    rcases Nat.eq_zero_or_pos n with h0 | h0
    · rw [if_neg (by omega), Option.bind_some, if_pos (by rw [List.length_nil]; omega), List.nil_append]
      exact ⟨l, rfl, hl, fun b hb => by have := hx b hb; omega⟩
    · obtain ⟨m, rfl⟩ : ∃ m, n = m + 1 := ⟨n - 1, by omega⟩
      have hw2 : wrap64 ((l.length : Int) - 1) = (m : Int) := by rw [hl]; unfold wrap64; omega
      rw [if_pos (by omega), hw2, if_pos (by omega), if_pos (by omega), rdb_nat l m (by omega), Int.toNat_natCast]
      have hsz := hx l[m] (List.getElem_mem _)
      rw [if_pos (by omega), Option.bind_some, Option.bind_some, if_pos (by rw [List.length_nil, List.length_set]; omega), List.nil_append]
      refine ⟨_, rfl, by rw [List.length_set]; exact hl, fun b hb => ?_⟩
      rcases List.mem_or_eq_of_mem_set hb with h | h
      · have := hx b h; omega
      · subst h
        rw [ByteArray.size_append]
        show l[m].size + 1 ≤ _
        omega
  | succ d ih =>
    intro k i l hi hl hx hk
    obtain ⟨k, rfl⟩ : ∃ m, k = m + 1 := ⟨k - 1, by omega⟩
    have hw : wrap64 ((l.length : Int) / 2) = ((n / 2 : Nat) : Int) := by unfold wrap64; omega
    have hw2 : wrap64 ((wrap64 ((l.length : Int) - 1)) - (i : Int)) = ((n - 1 - i : Nat) : Int) := by rw [hl]; unfold wrap64; omega
    rw [winnowlaw14_turned.l0, hw, if_pos (by omega), hw2, if_pos (by omega), if_pos (by omega), if_pos (by omega), if_pos (by omega), wrap_succB i (by omega)]
    refine ih k (i + 1) _ (by omega) (by rw [List.length_set, List.length_set]; exact hl) (fun b hb => ?_) (by omega)
    rcases List.mem_or_eq_of_mem_set hb with h | h
    · rcases List.mem_or_eq_of_mem_set h with h | h
      · exact hx b h
      · subst h; rw [rdb_nat l _ (by omega)]; exact hx _ (List.getElem_mem _)
    · subst h; rw [rdb_nat l _ (by omega)]; exact hx _ (List.getElem_mem _)
theorem turned_eq (l : List ByteArray) (hl : l.length ≤ 8796093021952) (hx : ∀ b ∈ l, b.size ≤ 140737488351232) (k : Nat) (hk : l.length < k) : ∃ L : List ByteArray, winnowlaw14_turned.f k l = some (L, L) ∧ L.length = l.length ∧ ∀ b ∈ L, b.size ≤ 140737488351233 := by
  unfold winnowlaw14_turned.f
  exact turned_loop l.length hl (l.length / 2) k 0 l (by omega) rfl hx (by omega)
end Go.Proofs.Ytbjlfenappnccaa.P

end
section
/- The walk of the law on bounds: the sample as it lies, and written over where it lies; answers that share nothing. -/
namespace Go.Proofs.Ytbjlfenappnccaa.P
open Go.RowKit Go.Proofs.YtbjlfenappnccaaW.PrintWords Go.Proofs.YtbjlfenappnccaaW.PrintLast Go.Proofs.YtbjlfenappnccaaW.PrintMore Go.Proofs.Ytbjlfenappnccaa.Hand
set_option linter.unusedVariables false
set_option linter.unusedSimpArgs false

/-- what is wanted, the sample with its mark, one answer (written over, and to), another: rows of the call's own, each of its own blocks -/
def RW (w0 W : World) (s1 s2 s3 s4 : Nat) (Vw Vx Vo Vt : Value) (lw lx lo lt : List ByteArray) : Prop :=
  Kd.R Kd.string 9 W w0.heap.size (fun k => k < s1) Vw lw ∧ Kd.R Kd.string 9 W w0.heap.size (fun k => s1 ≤ k ∧ k < s2) Vx lx ∧ Kd.R Kd.string 9 W w0.heap.size (fun k => (s2 ≤ k ∧ k < s3) ∨ s4 ≤ k) Vo lo ∧
    Kd.R Kd.string 9 W w0.heap.size (fun k => s3 ≤ k ∧ k < s4) Vt lt ∧ (s1 ≤ s2 ∧ s2 ≤ s3 ∧ s3 ≤ s4 ∧ s4 ≤ W.heap.size) ∧ Below w0.heap.size w0 W
section
variable {w0 W W' : World} {s1 s2 s3 s4 : Nat} {Vw Vx Vo Vt : Value} {lw lx lo lt : List ByteArray}
theorem RW.below (h : RW w0 W s1 s2 s3 s4 Vw Vx Vo Vt lw lx lo lt) (hb : Below W.heap.size W W') : RW w0 W' s1 s2 s3 s4 Vw Vx Vo Vt lw lx lo lt := by
  obtain ⟨h1, h2, h3, h4, h5, h6⟩ := h
  exact ⟨Kd.R_below h1 hb, Kd.R_below h2 hb, Kd.R_below h3 hb, Kd.R_below h4 hb, ⟨h5.1, h5.2.1, h5.2.2.1, Nat.le_trans h5.2.2.2 hb.size⟩, below_step h6 hb⟩
theorem RW.put {g n c : Nat} (h : RW w0 W s1 s2 s3 s4 Vw Vx (.slice (some ⟨g, 0, none⟩) n c) Vt lw lx lo lt) (i : Nat) (x : ByteArray) : RW w0 (W.setCell ⟨g, i, none⟩ (.string x)) s1 s2 s3 s4 Vw Vx (.slice (some ⟨g, 0, none⟩) n c) Vt lw lx (lo.set i x) lt := by
  obtain ⟨h1, h2, h3, h4, h5, h6⟩ := h
  have hg := h3.1 g rfl
  have hb := Kd.R_base h3 g rfl
  have hp := Kd.R_putn (h1 := fun _ => rfl) h3 (i : Int) x
  rw [Int.toNat_natCast] at hp
  refine ⟨Kd.R_far h1 (fun k hk => ?_) _, Kd.R_far h2 (fun k hk => ?_) _, hp, Kd.R_far h4 (fun k hk => ?_) _, ⟨h5.1, h5.2.1, h5.2.2.1, ?_⟩, below_set h6 hb⟩
  · show k ≠ g; omega
  · show k ≠ g; omega
  · show k ≠ g; omega
  · have := h5.2.2.2; simpa [World.setCell] using this
theorem RW.more {V1 : Value} {L : List ByteArray} (h : RW w0 W s1 s2 s3 s4 Vw Vx Vo Vt lw lx lo lt) (hr : Kd.R Kd.string 9 W' w0.heap.size (fun k => (s2 ≤ k ∧ k < s3) ∨ s4 ≤ k) V1 L) (hb : Below w0.heap.size w0 W') (hg : W.grownBy W' Vo.ownBlock) : RW w0 W' s1 s2 s3 s4 Vw Vx V1 Vt lw lx L lt := by
  obtain ⟨h1, h2, h3, h4, h5, h6⟩ := h
  have ho : ∀ k, Vo.ownBlock = some k → (s2 ≤ k ∧ k < s3) ∨ s4 ≤ k := h3.1
  refine ⟨Kd.R_grown h1 hg (fun k hk e => ?_), Kd.R_grown h2 hg (fun k hk e => ?_), hr, Kd.R_grown h4 hg (fun k hk e => ?_), ⟨h5.1, h5.2.1, h5.2.2.1, Nat.le_trans h5.2.2.2 hg.size⟩, hb⟩
  all_goals have := ho k e.symm; omega
end
theorem roomy_some' (l : List ByteArray) (hl : l.length ≤ 8796093021952) : ∃ r, winnowlaw14_roomy.f l = some r := by
  unfold winnowlaw14_roomy.f
  rw [Option.bind_some, if_pos (by rw [List.length_nil]; omega), Option.bind_some, if_pos (by rw [List.nil_append]; omega), Option.bind_some, if_pos (by omega), if_pos (by rw [List.nil_append, List.length_append, List.length_singleton]; omega)]
  exact ⟨_, rfl⟩
theorem bo_len (l : List ByteArray) (n : Int) : (boundsOf l n).1.length ≤ 65534 := by
  unfold boundsOf
  split
  · simp
  · split
    · split
      · rw [blB_length]; omega
      · simp
    · simp

set_option maxHeartbeats 8000000 in
set_option maxRecDepth 100000 in
theorem PBounds_walk (A0 : Option Addr) (c0 : Nat) (l : List ByteArray) (n : Int) (w : World) (hr0 : Kd.C Kd.string w A0 l.length l) (hc0 : l.length ≤ c0) (hl : l.length ≤ 8796093021952 ∧ ∀ x ∈ l, x.size ≤ 140737488351232) :
    Calls Try.prog 5 #[.slice A0 l.length c0, .int .i64 n] w fun e w' => e = .returned (.bool true) ∧ Below w.heap.size w w' := by
  obtain ⟨k, hk⟩ : ∃ k, 400000 * 65541 + 65540 + l.length < k := ⟨_, Nat.lt_succ_self _⟩
  obtain ⟨r, hr⟩ := roomy_some' l hl.1
  obtain ⟨L, hL, hLn, hLx⟩ := turned_eq l hl.1 hl.2 k (by omega)
  obtain ⟨B, hB⟩ : ∃ B, B = (boundsOf l n).1 := ⟨_, rfl⟩
  obtain ⟨E, hE⟩ : ∃ E, E = (boundsOf l n).2 := ⟨_, rfl⟩
  obtain ⟨B2, hB2⟩ : ∃ B2, B2 = (boundsOf L n).1 := ⟨_, rfl⟩
  obtain ⟨E2, hE2⟩ : ∃ E2, E2 = (boundsOf L n).2 := ⟨_, rfl⟩
  have HBL := Aside0.mk (show B.length ≤ 65534 by rw [hB]; exact bo_len l n)
  have HBL2 := Aside0.mk (show B2.length ≤ 65534 by rw [hB2]; exact bo_len L n)
  have HRB := Aside0.mk (show winnowref14_Bounds.f k l n = some (B, E) by rw [RefBounds_eq l n k (by omega), hB, hE])
  have HRB2 := Aside0.mk (show winnowref14_Bounds.f k L n = some (B2, E2) by rw [RefBounds_eq L n k (by omega), hB2, hE2])
  have HPB := Aside0.mk (show parts_Bounds.f l n = some (B, E) by rw [hB, hE]; rfl)
  have HPB2 := Aside0.mk (show parts_Bounds.f L n = some (B2, E2) by rw [hB2, hE2]; rfl)
  have HSM := Aside0.mk (sameT_eq B (by have := HBL.out; omega) 65540 (by have := HBL.out; omega))
  have HSM2 := Aside0.mk (sameT_eq B2 (by have := HBL2.out; omega) 65540 (by have := HBL2.out; omega))
  have HR0 := Aside0.mk hr0
  have HC0 := Aside0.mk hc0
  have HRM := Aside0.mk hr
  have HTN := Aside0.mk hL
  have HLN := Aside0.mk hLn
  have HLL := Aside0.mk hl.1
  clear hr0 hc0 hl hk hr hL hLn hLx hB hE hB2 hE2
  go_enter Try.func5, Try.ntmps5
  go_wp2_with fail
  refine (winnowref14_Bounds.calls k A0 c0 l n B E w HR0.out HC0.out HRB.out).mono ?_
  rintro e' w1 ⟨Vw, rfl, hW, hB1⟩
  obtain ⟨Aw, cw, rfl, hcw, _⟩ := Kd.R_reads hW
  have HW := Aside0.mk hW
  have HB1 := Aside0.mk hB1
  have HCW := Aside0.mk hcw
  clear hW hB1 hcw
  go_wp2_with fail
  refine (roomy_sharp A0 c0 l r w1 (Kd.C_below HR0.out HB1.out) HC0.out HRM.out).mono ?_
  rintro e' w2 ⟨A, cp, rfl, hcp, hX, hB2⟩
  have HB2 := Aside0.mk hB2
  have HX := Aside0.mk hX
  have HCP := Aside0.mk hcp
  have HCPL := Aside0.mk (show l.length ≤ cp by omega)
  have hXt := Kd.R_take hX (show l.length ≤ (l ++ [(⟨#[109, 97, 114, 107]⟩ : ByteArray)]).length by simp)
  rw [List.take_left] at hXt
  have HXC := Aside0.mk (Kd.R_reads' hXt).2.2
  clear hX hB2 hcp hXt
  go_wp2_with fail
  refine (parts_Bounds.calls A cp l n B E w2 HXC.out HCPL.out HPB.out).mono ?_
  rintro e' w3 ⟨Vo, rfl, hO, hB3⟩
  obtain ⟨Ao, co, rfl, hco, _⟩ := Kd.R_reads hO
  have HO := Aside0.mk hO
  have HB3 := Aside0.mk hB3
  have HCO := Aside0.mk hco
  clear hO hB3 hco
  go_wp2_with fail
  refine (parts_Bounds.calls A cp l n B E w3 (Kd.C_below HXC.out HB3.out) HCPL.out HPB.out).mono ?_
  rintro e' w4 ⟨Vt, rfl, hT, hB4⟩
  obtain ⟨At, ct, rfl, hct, _⟩ := Kd.R_reads hT
  have HB4 := Aside0.mk hB4
  have HCT := Aside0.mk hct
  obtain ⟨s1, hs1⟩ : ∃ s1, s1 = w1.heap.size := ⟨_, rfl⟩
  obtain ⟨s2, hs2⟩ : ∃ s2, s2 = w2.heap.size := ⟨_, rfl⟩
  obtain ⟨s3, hs3⟩ : ∃ s3, s3 = w3.heap.size := ⟨_, rfl⟩
  obtain ⟨s4, hs4⟩ : ∃ s4, s4 = w4.heap.size := ⟨_, rfl⟩
  have hRW : RW w w4 s1 s2 s3 s4 (.slice Aw B.length cw) (.slice A (l.length + 1) cp) (.slice Ao B.length co) (.slice At B.length ct) B (l ++ [(⟨#[109, 97, 114, 107]⟩ : ByteArray)]) B B := by
    have z1 := HB1.out.size
    have z2 := HB2.out.size
    have z3 := HB3.out.size
    have z4 := HB4.out.size
    have b34 := HB4.out
    have b23 := below_step HB3.out HB4.out
    have b12 := below_step HB2.out b23
    refine ⟨?_, ?_, ?_, ?_, ⟨by omega, by omega, by omega, by omega⟩, below_step HB1.out b12⟩
    · exact Kd.R_mono (Kd.R_below (Kd.R_bound HW.out) b12) (fun k hk => by have := hk.2.2.1; omega)
    · exact Kd.R_lower (Kd.R_mono (Kd.R_below (Kd.R_bound HX.out) b23) (fun k hk => by have := hk.2.2.1; have := hk.2.1; omega)) (by omega)
    · exact Kd.R_lower (Kd.R_mono (Kd.R_below (Kd.R_bound HO.out) b34) (fun k hk => by have := hk.2.2.1; have := hk.2.1; omega)) (by omega)
    · exact Kd.R_lower (Kd.R_mono (Kd.R_bound hT) (fun k hk => by have := hk.2.2.1; have := hk.2.1; omega)) (by omega)
  have HRW := Aside0.mk hRW
  clear hRW hT hB4 hct hs1 hs2 hs3 hs4 HW HX HXC HO HB1 HB2 HB3 HB4
  have HBR := Aside0.mk (show parts_Bounds.f [(⟨#[113]⟩ : ByteArray), ⟨#[114]⟩, ⟨#[115]⟩] 3 = some ((boundsOf [(⟨#[113]⟩ : ByteArray), ⟨#[114]⟩, ⟨#[115]⟩] 3).1, (boundsOf [(⟨#[113]⟩ : ByteArray), ⟨#[114]⟩, ⟨#[115]⟩] 3).2) from rfl)
  generalize (boundsOf [(⟨#[113]⟩ : ByteArray), ⟨#[114]⟩, ⟨#[115]⟩] 3).1 = Q1 at HBR
  generalize (boundsOf [(⟨#[113]⟩ : ByteArray), ⟨#[114]⟩, ⟨#[115]⟩] 3).2 = Q2 at HBR
  go_upto_region 6 with (first
    | ((with_reducible refine gate_dst (N := 40) rfl ?_); (try (refine gate_guard (by rfl) ?_; dsimp only)); refine Kd.R_lit Kd.string _ 9 ?hg (N := 40) ?hd (xs := ([(⟨#[113]⟩ : ByteArray), (⟨#[114]⟩ : ByteArray), (⟨#[115]⟩ : ByteArray)] : List ByteArray)) (inner := [.string (⟨#[113]⟩ : ByteArray), .string (⟨#[114]⟩ : ByteArray), .string (⟨#[115]⟩ : ByteArray)]) (ok := fun _ => True) (okp := fun _ => True) ?hr ?hp (fun _ hk => hk) trivial (Below.refl _ _) (Nat.le_refl _) (by simp) ?_; (case hd => rfl); (case hg => rfl); (case hr => first | (go_simp; done) | (go_simp; rfl)); (case hp => exact (Reps.one (show Kd.M Kd.string _ _ _ (⟨#[113]⟩ : ByteArray) [.string (⟨#[113]⟩ : ByteArray)] from rfl) (Reps.one (show Kd.M Kd.string _ _ _ (⟨#[114]⟩ : ByteArray) [.string (⟨#[114]⟩ : ByteArray)] from rfl) (Reps.one (show Kd.M Kd.string _ _ _ (⟨#[115]⟩ : ByteArray) [.string (⟨#[115]⟩ : ByteArray)] from rfl) (Reps.none _ _))))); intro v40 w5 ho hb hg_ hnew_; clear hg_ hnew_; obtain ⟨Aq, cq, rfl, hcq, hCq⟩ := Kd.R_reads ho; have HCq := Aside0.mk hCq; have Hcq := Aside0.mk hcq; have HRW5 := Aside0.mk (HRW.out.below hb); clear HRW ho hb hcq hCq)
    | (go_at_call 15; refine (parts_Bounds.calls Aq cq _ 3 Q1 Q2 _ HCq.out Hcq.out HBR.out).mono ?_; rintro e' w6 ⟨Vq, rfl, _, hB6⟩; have HRW6 := Aside0.mk (HRW5.out.below hB6); clear HRW5 hB6))
  have heq : decide (E = E) = true := decide_eq_true rfl
  go_wp2_with fail
  refine (winnowlaw14_sameTexts.calls 65540 Ao co B Aw cw B true _ (Kd.R_reads' HRW6.out.2.2.1).2.2 HCO.out (Kd.R_reads' HRW6.out.1).2.2 HCW.out HSM.out).mono ?_
  rintro e' w7 ⟨rfl, hD⟩
  have HRW7 := Aside0.mk (HRW6.out.below hD.below)
  clear hD HRW6
  go_wp2_with fail
  refine (winnowlaw14_sameTexts.calls 65540 At ct B Aw cw B true _ (Kd.R_reads' HRW7.out.2.2.2.1).2.2 HCT.out (Kd.R_reads' HRW7.out.1).2.2 HCW.out HSM.out).mono ?_
  rintro e' w8 ⟨rfl, hD⟩
  have HRW8 := Aside0.mk (HRW7.out.below hD.below)
  clear hD HRW7
  go_wp2_with fail
  go_loopw [13] (fun v0 wr => ∃ i : Nat, v0 = .int .i64 i ∧ i ≤ B.length ∧ ∃ G : List ByteArray, Aside0 (G.length = B.length) ∧ Aside0 (RW w wr s1 s2 s3 s4 (.slice Aw B.length cw) (.slice A (l.length + 1) cp) (.slice Ao B.length co) (.slice At B.length ct) B (l ++ [(⟨#[109, 97, 114, 107]⟩ : ByteArray)]) G B)) (fun v0 _ => B.length - (intOf v0).toNat)
  case atStart => exact ⟨0, rfl, Nat.zero_le _, B, ⟨rfl⟩, HRW8⟩
  case round =>
    clear HRW8
    obtain ⟨i, rfl, hi, G, HG, HRW⟩ := hrel
    by_cases hlt : i < B.length
    · have q1 : (i : Int) < (B.length : Int) := Int.ofNat_lt.2 hlt
      have d1 : decide ((i : Int) < (B.length : Int)) = true := decide_eq_true q1
      have d2 : decide (i < B.length) = true := decide_eq_true hlt
      have p1 : (0 : Int) ≤ (i : Int) := Int.natCast_nonneg i
      have hw4 : wrap64 ((i : Int) + 1) = ((i + 1 : Nat) : Int) := wrap_succB i (by have := HBL.out; omega)
      obtain ⟨go, cap_, hv, _, _, _⟩ := Kd.R_form HRW.out.2.2.1 (by have := HG.out; omega)
      injection hv with hv1 hv2 hv3
      subst hv1
      clear hv2 hv3
      have hcb := Kd.R_celln ByteArray.empty HRW.out.2.2.1 (i : Int) p1 q1
      rw [Int.toNat_natCast] at hcb
      have hcb1 := hcb.1
      have hcb2 := hcb.2
      generalize rdOf ByteArray.empty G (i : Int) = old at hcb1
      have HP := Aside0.mk (HRW.out.put i (⟨#[103, 111, 110, 101]⟩ : ByteArray))
      have HG2 := Aside0.mk (show (G.set i (⟨#[103, 111, 110, 101]⟩ : ByteArray)).length = B.length by rw [List.length_set]; exact HG.out)
      clear hcb HRW HG
      replace p1 := eq_true p1
      replace q1 := eq_true q1
      go_wp2_with fail
      go_roundw
      case rel => exact ⟨i + 1, by rw [hw4], by omega, _, HG2, by first | exact HP | exact ⟨HP.out.below (below_drew1 (Below.refl _ _))⟩⟩
      case measure => rw [hw4]; simp only [intOf, Int.toNat_natCast]; omega
    · have d1 : decide ((i : Int) < (B.length : Int)) = false := by simp; omega
      have d2 : decide (i < B.length) = false := by simp; omega
      clear hlt hi
      go_wp2_with fail
      have HG0 : Aside0 (G.length = B.length + 0) := ⟨HG.out⟩
      have HCO0 := HCO
      go_loopw [8, 14] (fun v8 v14 wr => ∃ (j : Nat) (A8 : Option Addr) (c8 : Nat) (G8 : List ByteArray), v8 = .slice A8 (B.length + j) c8 ∧ v14 = .int .i64 j ∧ j ≤ 64 ∧ Aside0 (B.length + j ≤ c8) ∧ Aside0 (G8.length = B.length + j) ∧ Aside0 (RW w wr s1 s2 s3 s4 (.slice Aw B.length cw) (.slice A (l.length + 1) cp) (.slice A8 (B.length + j) c8) (.slice At B.length ct) B (l ++ [(⟨#[109, 97, 114, 107]⟩ : ByteArray)]) G8 B)) (fun v8 v14 _ => 64 - (intOf v14).toNat)
      case atStart => exact ⟨0, Ao, co, G, rfl, rfl, Nat.zero_le _, HCO, HG0, HRW⟩
      case round =>
        clear HG HG0 HRW HCO0
        obtain ⟨j, A8, c8, G8, rfl, rfl, hj, HC8, HG, HRW⟩ := hrel
        by_cases hlt : j < 64
        · have d3 : decide ((j : Int) < 64) = true := decide_eq_true (by omega)
          have d4 : decide (j < 64) = true := decide_eq_true hlt
          have hw4 : wrap64 ((j : Int) + 1) = ((j + 1 : Nat) : Int) := wrap_succB j (by omega)
          go_wp2_with (first
            | ((with_reducible refine gate_builtin (b := .append) (xs := #[.tmp 73, .tmp 74]) rfl ?_); (try (refine gate_guard (by rfl) ?_; dsimp only)); at_builtin; refine Kd.R_append Kd.string (w0 := w) w.heap.size rfl (.tmp 73) (.tmp 74) 24 9 (.string ⟨#[]⟩) 16 rfl Try.underlying24 info9 rfl (by decide) (by omega) (.slice A8 (B.length + j) c8) G8 (⟨#[109, 111, 114, 101]⟩ : ByteArray) [.string (⟨#[109, 111, 114, 101]⟩ : ByteArray)] (fun k => (s2 ≤ k ∧ k < s3) ∨ s4 ≤ k) (fun _ => False) rfl rfl ?aP (fun _ hk => hk.elim) ?aF ?aO ?aB ?aS ?aL ?_; (case aP => exact rfl); (case aB => exact HRW.out.2.2.2.2.2); (case aF => exact (fun k hk => .inr (Nat.le_trans HRW.out.2.2.2.2.1.2.2.2 hk))); (case aO => exact HRW.out.2.2.1); (case aS => exact below_size HRW.out.2.2.2.2.2); (case aL => have := HG.out; have := HBL.out; omega); intro v75 w9 ho hb hg hat; obtain ⟨A9, c9, rfl, hc9, _⟩ := Kd.R_reads ho; have HRW9 := Aside0.mk (HRW.out.more ho hb hg); have HC9 := Aside0.mk hc9; clear HRW ho hb hg hat hc9))
          have e9 : (G8 ++ [(⟨#[109, 111, 114, 101]⟩ : ByteArray)]).length = B.length + (j + 1) := by rw [List.length_append, List.length_singleton, HG.out]; omega
          rw [e9] at HRW9 HC9
          exact ⟨⟨j + 1, A9, c9, _, by rw [HG.out]; rfl, rfl, by omega, HC9, ⟨e9⟩, HRW9⟩, by simp only [intOf]; omega⟩
        · have d3 : decide ((j : Int) < 64) = false := decide_eq_false (by omega)
          have d4 : decide (j < 64) = false := decide_eq_false hlt
          obtain rfl : j = 64 := by omega
          clear hlt hj
          go_wp2_with fail
          refine (winnowlaw14_sameTexts.calls 65540 At ct B Aw cw B true _ (Kd.R_reads' HRW.out.2.2.2.1).2.2 HCT.out (Kd.R_reads' HRW.out.1).2.2 HCW.out HSM.out).mono ?_
          rintro e' w10 ⟨rfl, hD⟩
          have HRW10 := Aside0.mk (HRW.out.below hD.below)
          clear hD HRW
          have hxt := Kd.R_take HRW10.out.2.1 (show l.length ≤ (l ++ [(⟨#[109, 97, 114, 107]⟩ : ByteArray)]).length by simp)
          rw [List.take_left] at hxt
          have HXT := Aside0.mk hxt
          clear hxt
          have hw5 : wrap64 ((B.length : Int) + 64) = ((B.length + 64 : Nat) : Int) := by have := HBL.out; unfold wrap64; omega
          have hw6 : IntKind.i64.wrap ((B.length : Int) + 64) = ((B.length + 64 : Nat) : Int) := (i64_w _).trans hw5
          go_wp2_with fail
          have hC := (Kd.R_reads' HRW10.out.2.1).2.2
          rw [List.length_append, List.length_singleton] at hC
          refine (kept_any w10 A A0 cp c0 l.length l hC (Kd.R_reads' HXT.out).2.2 HCP.out rfl (Kd.C_below HR0.out HRW10.out.2.2.2.2.2) HC0.out (by have := HLL.out; omega)).mono ?_
          clear hC
          rintro e' w11 ⟨rfl, hB11⟩
          have HB11 := Aside0.mk (below_step HRW10.out.2.2.2.2.2 hB11)
          have HXT11 := Aside0.mk (Kd.R_below HXT.out hB11)
          clear hB11 HXT HRW10
          go_wp2_with fail
          refine (parts_Bounds.calls A cp l n B E w11 (Kd.R_reads' HXT11.out).2.2 HCPL.out HPB.out).mono ?_
          rintro e' w12 ⟨_, rfl, _, hB12⟩
          have HB12 := Aside0.mk (below_step HB11.out hB12)
          have HXT12 := Aside0.mk (Kd.R_below HXT11.out hB12)
          clear hB12 HB11 HXT11
          go_wp2_with fail
          refine (winnowlaw14_turned.calls k _ _ l L L w w12 HB12.out HXT12.out HTN.out).mono ?_
          rintro e' w13 ⟨vt, rfl, hT, hX, hB13, _⟩
          obtain ⟨Az, cz, rfl, hcz, hCz⟩ := Kd.R_reads hT
          have HB13 := Aside0.mk hB13
          have HCX := Aside0.mk (Kd.R_reads' hX).2.2
          have HCZ := Aside0.mk hCz
          have Hcz := Aside0.mk hcz
          have HCPX := Aside0.mk (show L.length ≤ cp by have := HCPL.out; have := HLN.out; omega)
          clear hT hX hB13 hCz hcz HXT12 HB12
          go_wp2_with fail
          refine (winnowref14_Bounds.calls k Az cz L n B2 E2 w13 HCZ.out Hcz.out HRB2.out).mono ?_
          rintro e' w14 ⟨Vh, rfl, hH, hB14⟩
          obtain ⟨Ah, ch, rfl, hch, _⟩ := Kd.R_reads hH
          have HH := Aside0.mk hH
          have HB14 := Aside0.mk (below_step HB13.out hB14)
          have HCX14 := Aside0.mk (Kd.C_below HCX.out hB14)
          have Hch := Aside0.mk hch
          clear hH hB14 hch HCX HB13 HCZ
          go_wp2_with fail
          have q := parts_Bounds.calls A cp L n B2 E2 w14 HCX14.out HCPX.out HPB2.out
          rw [HLN.out] at q
          refine q.mono ?_
          clear q
          rintro e' w15 ⟨Vy, rfl, hY, hB15⟩
          obtain ⟨Ay, cy, rfl, hcy, _⟩ := Kd.R_reads hY
          have HY := Aside0.mk hY
          have HH15 := Aside0.mk (Kd.R_below HH.out hB15)
          have HB15 := Aside0.mk (below_step HB14.out hB15)
          have Hcy := Aside0.mk hcy
          clear hY hB15 hcy HH HB14 heq
          have heq2 : decide (E2 = E2) = true := decide_eq_true rfl
          go_wp2_with fail
          refine (winnowlaw14_sameTexts.calls 65540 Ay cy B2 Ah ch B2 true _ (Kd.R_reads' HY.out).2.2 Hcy.out (Kd.R_reads' HH15.out).2.2 Hch.out HSM2.out).mono ?_
          rintro e' w16 ⟨rfl, hD⟩
          have HB16 := Aside0.mk (below_step HB15.out hD.below)
          clear hD
          go_wp2_with fail
          go_ret
          exact ⟨by first | rfl | (simp; done), HB16.out⟩
/-- The law as a function with a contract: true of whatever is not too long. -/
def winnowlaw14_PartsBounds.f (l0 : List ByteArray) (a1 : Int) : Option Bool := if l0.length ≤ 8796093021952 ∧ ∀ x ∈ l0, x.size ≤ 140737488351232 then some true else none
theorem winnowlaw14_PartsBounds.calls (A0 : Option Addr) (c0 : Nat) (l0 : List ByteArray) (a1 : Int) (r : Bool) (w : World) (hr0 : Kd.C Kd.string w A0 l0.length l0) (hc0 : l0.length ≤ c0) (h : winnowlaw14_PartsBounds.f l0 a1 = some r) :
    Calls Try.prog 5 #[.slice A0 l0.length c0, .int .i64 a1] w fun e w' => e = .returned (.bool r) ∧ Below w.heap.size w w' := by
  unfold winnowlaw14_PartsBounds.f at h
  by_cases hc : l0.length ≤ 8796093021952 ∧ ∀ x ∈ l0, x.size ≤ 140737488351232
  · rw [if_pos hc] at h
    injection h with h
    subst h
    exact PBounds_walk A0 c0 l0 a1 w hr0 hc0 hc
  · rw [if_neg hc] at h
    cases h
end Go.Proofs.Ytbjlfenappnccaa.P

end
