-- Written by a program of this session (wip/tools/hprint.py, over the kit's printer), not by hand. Lean checks it.
import Derived.Test.YtljahmnilmjlpaaP0
namespace Go.Proofs.Ytljahmnilmjlpaa.P
open Go.RowKit Go.Proofs.YtljahmnilmjlpaaW.PrintWords Go.Proofs.YtljahmnilmjlpaaW.PrintLast Go.Proofs.YtljahmnilmjlpaaW.PrintMore
attribute [local go_sem] max2_int min2_int max_two min_two max_three min_three max_four min_four
set_option linter.unusedVariables false
set_option linter.unusedSimpArgs false

/-! ### winnowlaw10_roomy: function 12 -/
def winnowlaw10_roomy.l0 : Nat → List (S23) → List (S23) → Int → Option ((List (S23)))
  | 0, _, _, _ => none
  | k + 1, x0, x3, x4 => if x4 < (x3.length : Int) then (if 0 ≤ x4 then ((some (x3.set (x4 : Int).toNat (⟨(-77), (⟨#[109, 97, 114, 107]⟩ : ByteArray), (⟨#[]⟩ : ByteArray)⟩ : S23) : List (S23))).bind fun y119 => (if x4 < (x0.length : Int) then (winnowlaw10_roomy.l0 k x0 (y119.set (x4 : Int).toNat (⟨(rd_T23 x0 x4).f0, (rd_T23 x0 x4).f1, (rd_T23 x0 x4).f2⟩ : S23)) (wrap64 (x4 + 1))) else (winnowlaw10_roomy.l0 k x0 y119 (wrap64 (x4 + 1))))) else (none)) else (some x3)
def winnowlaw10_roomy.f (k : Nat) (l0 : List (S23)) : Option ((List (S23))) := if 0 ≤ (wrap64 ((l0.length : Int) + 64)) then (if (wrap64 ((l0.length : Int) + 64) : Int).toNat ≤ 7036874417766 then (winnowlaw10_roomy.l0 k l0 (List.replicate (wrap64 ((l0.length : Int) + 64) : Int).toNat z23) 0) else (none)) else (none)
theorem winnowlaw10_roomy.mono_l : ∀ k, (∀ y0 y1 y2, LeO (winnowlaw10_roomy.l0 k y0 y1 y2) (winnowlaw10_roomy.l0 (k + 1) y0 y1 y2))
  | 0 => fun _ _ _ r h => by simp [winnowlaw10_roomy.l0] at h
  | k + 1 => by
    have ih0 := winnowlaw10_roomy.mono_l k
    · intro y0 y1 y2
      unfold winnowlaw10_roomy.l0
      repeat' first
      | (with_reducible exact ih0 _ _ _)
      | (with_reducible exact LeO.refl _)
      | (with_reducible exact LeO.none _)
      | (with_reducible refine LeO.ite ?_ ?_)
      | (with_reducible refine LeO.bind ?_ (fun _ => ?_))
      | exact ih0 _ _ _
      | exact LeO.none _
      | refine LeO.ite ?_ ?_
      | refine LeO.bind ?_ (fun _ => ?_)
theorem winnowlaw10_roomy.mono : ∀ a0 k, LeO (winnowlaw10_roomy.f k a0) (winnowlaw10_roomy.f (k + 1) a0) := by
  intro a0 k
  have ih0 := winnowlaw10_roomy.mono_l k
  unfold winnowlaw10_roomy.f
  repeat' first
      | (with_reducible exact ih0 _ _ _)
      | (with_reducible exact LeO.refl _)
      | (with_reducible exact LeO.none _)
      | (with_reducible refine LeO.ite ?_ ?_)
      | (with_reducible refine LeO.bind ?_ (fun _ => ?_))
      | exact ih0 _ _ _
      | exact LeO.none _
      | refine LeO.ite ?_ ?_
      | refine LeO.bind ?_ (fun _ => ?_)
set_option maxHeartbeats 8000000 in
set_option maxRecDepth 100000 in
theorem winnowlaw10_roomy.calls (k : Nat) (A0 : Option Addr) (c0 : Nat) (l0 : List (S23)) (r : List (S23)) (w : World) (hr0 : Kd.C k23 w A0 l0.length l0) (hc0 : l0.length ≤ c0) (h : winnowlaw10_roomy.f k l0 = some r) :
    Calls Try.prog 12 #[.slice A0 l0.length c0] w fun e w' => ∃ v0_ : Value, e = .returned (v0_) ∧ Kd.R k23 23 w' w.heap.size (fun _ => True) v0_ r ∧ Below w.heap.size w w' := by
  have hu23 := Try.underlying23
  have HR0 := Aside0.mk hr0
  have HC0 := Aside0.mk hc0
  clear hr0 hc0
  have HB := Aside0.mk (Below.refl w.heap.size w)
  have H : (if 0 ≤ (wrap64 ((l0.length : Int) + 64)) then (if (wrap64 ((l0.length : Int) + 64) : Int).toNat ≤ 7036874417766 then (winnowlaw10_roomy.l0 k l0 (List.replicate (wrap64 ((l0.length : Int) + 64) : Int).toNat z23) 0) else (none)) else (none)) = some r := h
  clear h
  obtain ⟨ji2, hji2⟩ : ∃ j_ : Int, (wrap64 ((l0.length : Int) + 64)) = j_ := ⟨_, rfl⟩
  replace H : (if 0 ≤ (ji2) then (if (ji2 : Int).toNat ≤ 7036874417766 then (winnowlaw10_roomy.l0 k l0 (List.replicate (ji2 : Int).toNat z23) 0) else (none)) else (none)) = some r := by first | (rw [hji2] at H; exact H) | (simp only [hji2] at H ⊢; exact H)
  have hji2w : (IntKind.i64.wrap ((l0.length : Int) + 64)) = ji2 := (i64_w _).trans hji2
  by_cases c3 : 0 ≤ (ji2)
  · rw [if_pos c3] at H
    have c3b0 := eq_true c3
    have c3b1 : decide (0 ≤ (ji2)) = true := decide_eq_true c3
    clear c3
    by_cases c4 : (ji2 : Int).toNat ≤ 7036874417766
    · rw [if_pos c4] at H
      have c4b0 := eq_true c4
      have c4b1 : decide ((ji2 : Int).toNat ≤ 7036874417766) = true := decide_eq_true c4
      clear c4
      obtain ⟨y116, hy116⟩ : ∃ y_ : List (S23), y_ = (List.replicate (ji2 : Int).toNat z23) := ⟨_, rfl⟩
      replace H : (winnowlaw10_roomy.l0 k l0 y116 0) = some r := by first | (rw [hy116]; with_reducible exact H) | (have H2_ := (Option.bind_some _ _).symm.trans H; rw [hy116]; with_reducible exact H2_) | (have H2_ := (Option.bind_some _ _).symm.trans H; with_reducible exact H2_) | with_reducible exact H | (rw [hy116]; exact H) | exact H
      have Ny116 := Aside0.mk hy116
      clear hy116
      have H' := Aside0.mk H
      clear H
      go_enter Try.func12, Try.ntmps12
      go_wp2_with (first | ((with_reducible refine gate_dst (N := 8) rfl ?_); refine Kd.R_make k23 _ 23 rfl (N := 8) rfl 27 _ _ rfl ji2 rfl rfl Try.underlying27 (.agg #[(.int .i64 0), (.string ⟨#[]⟩), (.string ⟨#[]⟩)]) 40 info23 rfl (by decide) (by omega) z23 (ok := fun _ => True) (okp := fun _ => True) (k23_mkM _ _ _ z23 ) (fun _ hk => hk) trivial (of_decide_eq_true (by first | (with_reducible assumption) | assumption)) (Nat.le_trans (Nat.mul_le_mul_right _ (of_decide_eq_true (by first | (with_reducible assumption) | assumption) : ji2.toNat ≤ 7036874417766)) (by omega)) (Below.refl _ _) (Nat.le_refl _) ?_; intro v117 w5 ho6 hb hg_ hnew_; clear hg_ hnew_; (first | rw [← Ny116.out] at ho6 | (simp only [Int.reduceToNat] at ho6; rw [← Ny116.out] at ho6)); have n0_ := Aside0.mk (Kd.R_lower ho6 (below_size (by repeat (first | (with_reducible first | exact HB.out | apply below_alloc | apply pw_below_drewN | apply below_drew1) | exact HB.out)))); have n1_ := Aside0.mk (below_step (by repeat (first | (with_reducible first | exact HB.out | apply below_alloc | apply pw_below_drewN | apply below_drew1) | exact HB.out)) hb); clear HB; have HO118 := n0_; have HB := n1_; clear n0_ n1_; clear hb ho6))
      go_loopg [4] k (fun kq v4 w' => ∃ (x3_1 : List (S23)) (x4_1 : Int), v4 = .int .i64 x4_1 ∧ Aside0 (winnowlaw10_roomy.l0 kq l0 x3_1 x4_1 = some r) ∧ Aside0 (kq ≤ k) ∧ Aside0 (Kd.R k23 23 w' w.heap.size (fun _ => True) v117 x3_1) ∧ Aside0 (Below w.heap.size w w'))
      case atStart => exact ⟨(y116), (0), (by first | rfl | (simp; done) | (simp [*]; done)), H', ⟨Nat.le_refl _⟩, ⟨by (with_reducible repeat (first | apply Kd.R_alloc | apply Kd.R_drewN | apply Kd.R_drew)); exact HO118.out⟩, ⟨by repeat (first | (with_reducible first | exact HB.out | apply below_alloc | apply pw_below_drewN | apply below_drew1) | exact HB.out)⟩⟩
      case round =>
        clear H'
        try clear c1
        try clear p2
        try clear c3
        try clear c3b0
        try clear c3b1
        try clear c4
        try clear c4b0
        try clear c4b1
        try clear p6
        obtain ⟨x3_1, x4_1, rfl, HA, HK1, HO_3, HB⟩ := hrel
        cases gk with
        | zero => exact absurd HA.out (by simp [winnowlaw10_roomy.l0])
        | succ k1 =>
          have H := HA.out
          clear HA
          simp only [winnowlaw10_roomy.l0] at H
          by_cases c7 : x4_1 < (x3_1.length : Int)
          · rw [if_pos c7] at H
            have c7b0 : decide (x4_1 < (x3_1.length : Int)) = true := decide_eq_true c7
            clear c7
            by_cases c8 : 0 ≤ x4_1
            · rw [if_pos c8] at H
              have c8b0 : decide (0 ≤ x4_1) = true := decide_eq_true c8
              clear c8
              obtain ⟨y119, hy119⟩ : ∃ y_ : List (S23), y_ = (x3_1.set (x4_1 : Int).toNat (⟨(-77), (⟨#[109, 97, 114, 107]⟩ : ByteArray), (⟨#[]⟩ : ByteArray)⟩ : S23)) := ⟨_, rfl⟩
              replace H : (if x4_1 < (l0.length : Int) then (winnowlaw10_roomy.l0 k1 l0 (y119.set (x4_1 : Int).toNat (⟨(rd_T23 l0 x4_1).f0, (rd_T23 l0 x4_1).f1, (rd_T23 l0 x4_1).f2⟩ : S23)) (wrap64 (x4_1 + 1))) else (winnowlaw10_roomy.l0 k1 l0 y119 (wrap64 (x4_1 + 1)))) = some r := by first | (rw [hy119]; with_reducible exact H) | (have H2_ := (Option.bind_some _ _).symm.trans H; rw [hy119]; with_reducible exact H2_) | (have H2_ := (Option.bind_some _ _).symm.trans H; with_reducible exact H2_) | with_reducible exact H | (rw [hy119]; exact H) | exact H
              have Ny119 := Aside0.mk hy119
              clear hy119
              by_cases c10 : x4_1 < (l0.length : Int)
              · rw [if_pos c10] at H
                have c10b0 : decide (x4_1 < (l0.length : Int)) = true := decide_eq_true c10
                clear c10
                obtain ⟨y121, hy121⟩ : ∃ y_ : List (S23), y_ = (y119.set (x4_1 : Int).toNat (⟨(rd_T23 l0 x4_1).f0, (rd_T23 l0 x4_1).f1, (rd_T23 l0 x4_1).f2⟩ : S23)) := ⟨_, rfl⟩
                replace H : (winnowlaw10_roomy.l0 k1 l0 y121 (wrap64 (x4_1 + 1))) = some r := by first | (rw [hy121]; with_reducible exact H) | (have H2_ := (Option.bind_some _ _).symm.trans H; rw [hy121]; with_reducible exact H2_) | (have H2_ := (Option.bind_some _ _).symm.trans H; with_reducible exact H2_) | with_reducible exact H | (rw [hy121]; exact H) | exact H
                have Ny121 := Aside0.mk hy121
                clear hy121
                have H' := Aside0.mk H
                clear H
                obtain ⟨Ao12, co12, eo12⟩ := Kd.R_slice HO_3.out
                subst eo12
                have p9 : 0 ≤ (x4_1 : Int) := of_decide_eq_true (by first | (with_reducible assumption) | assumption)
                have q9 : (x4_1 : Int) < ((x3_1.length : Int) : Int) := of_decide_eq_true (by first | (with_reducible assumption) | assumption)
                obtain ⟨go9, co9, eo9, gb9, gl9, cl9, HG9⟩ := Kd.R_form HO_3.out (by omega)
                (first | cases eo9 | (injection eo9 with ea_ en_ ec_; (first | subst ea_ | (injection ea_ with ea_; subst ea_)); subst ec_; clear en_))
                have GB9 := Aside0.mk gb9
                have GG9 := Aside0.mk HG9
                clear gb9 gl9 HG9
                obtain ⟨ce9, hcl9, hM9, hcc9, hfr9⟩ := Kd.R_elem HO_3.out z23 (x4_1 : Int) p9 q9
                obtain rfl := k23_openM hM9
                have hx9_0 : wr.cell? ⟨go9, (x4_1 : Int).toNat * 3, none⟩ = some (.int .i64 ((rd_T23 x3_1 x4_1).f0)) := hcc9 0 _ rfl
                have hx9_1 : wr.cell? ⟨go9, (x4_1 : Int).toNat * 3 + 1, none⟩ = some (.string ((rd_T23 x3_1 x4_1).f1)) := hcc9 1 _ rfl
                have hx9_2 : wr.cell? ⟨go9, (x4_1 : Int).toNat * 3 + 2, none⟩ = some (.string ((rd_T23 x3_1 x4_1).f2)) := hcc9 2 _ rfl
                have hf9_0 : wr.frozen? ⟨go9, (x4_1 : Int).toNat * 3, none⟩ = false := hfr9 0
                have hf9_1 : wr.frozen? ⟨go9, (x4_1 : Int).toNat * 3 + 1, none⟩ = false := hfr9 1
                have hf9_2 : wr.frozen? ⟨go9, (x4_1 : Int).toNat * 3 + 2, none⟩ = false := hfr9 2
                clear hcl9 hcc9 hfr9 hM9
                replace p9 := eq_true p9
                replace q9 := eq_true q9
                have HX13 := Aside0.mk (show Kd.R k23 23 wr w.heap.size (fun _ => True) (.slice (some ⟨go9, 0, none⟩) x3_1.length co12) x3_1 from (by (with_reducible repeat (first | apply Kd.R_alloc | apply Kd.R_drewN | apply Kd.R_drew)); exact HO_3.out))
                obtain ⟨ce13, hcl13, hM13, hcc13, hfr13⟩ := Kd.R_elem HX13.out z23 (x4_1 : Int) (of_decide_eq_true (by first | (with_reducible assumption) | assumption)) (by have h_ : (x4_1 : Int) < ((x3_1.length : Int) : Int) := of_decide_eq_true (by first | (with_reducible assumption) | assumption); first | exact h_ | (have e_ := (Kd.R_reads' HO_3.out).1; omega) | simpa using h_)
                obtain rfl := k23_openM hM13
                have HP13 := Kd.R_seg HX13.out (x4_1 : Int) (of_decide_eq_true (by first | (with_reducible assumption) | assumption)) (by have h_ : (x4_1 : Int) < ((x3_1.length : Int) : Int) := of_decide_eq_true (by first | (with_reducible assumption) | assumption); first | exact h_ | (have e_ := (Kd.R_reads' HO_3.out).1; omega) | simpa using h_) (seg := [.int .i64 (-77), .string (⟨#[109, 97, 114, 107]⟩ : ByteArray), .string (⟨#[]⟩ : ByteArray)]) (j := 0) hcl13 hcc13 (show 3 ≤ 3 from by decide) (x' := (⟨(-77), (⟨#[109, 97, 114, 107]⟩ : ByteArray), (⟨#[]⟩ : ByteArray)⟩ : S23)) (k23_mkM _ _ _ (⟨(-77), (⟨#[109, 97, 114, 107]⟩ : ByteArray), (⟨#[]⟩ : ByteArray)⟩ : S23) ) (fun _ hk => hk)
                have hx13_0 := hcc13 0 _ rfl
                (try simp only [show (k23).sz = 3 from rfl, Nat.mul_one, Nat.add_zero] at hx13_0)
                have hf13_0 := hfr13 0
                (try simp only [show (k23).sz = 3 from rfl, Nat.mul_one, Nat.add_zero] at hf13_0)
                have hx13_1 := hcc13 1 _ rfl
                (try simp only [show (k23).sz = 3 from rfl, Nat.mul_one, Nat.add_zero] at hx13_1)
                have hf13_1 := hfr13 1
                (try simp only [show (k23).sz = 3 from rfl, Nat.mul_one, Nat.add_zero] at hf13_1)
                have hx13_2 := hcc13 2 _ rfl
                (try simp only [show (k23).sz = 3 from rfl, Nat.mul_one, Nat.add_zero] at hx13_2)
                have hf13_2 := hfr13 2
                (try simp only [show (k23).sz = 3 from rfl, Nat.mul_one, Nat.add_zero] at hf13_2)
                clear hcl13 hcc13 hfr13 hM13
                go_wp2_with (first | ((with_reducible refine gate_store (t := 23) (p := 18) rfl ?_); refine store_event (t := 23) (p := 18) (v := ?vo_w14) (w1 := (((wr.setCell ⟨go9, (x4_1 : Int).toNat * 3, none⟩ (.int .i64 (-77))).setCell ⟨go9, (x4_1 : Int).toNat * 3 + 1, none⟩ (.string (⟨#[109, 97, 114, 107]⟩ : ByteArray))).setCell ⟨go9, (x4_1 : Int).toNat * 3 + 2, none⟩ (.string (⟨#[]⟩ : ByteArray)))) ?hg ?ho ?hn ?hr ?_; (case ho => rfl); (case hg => rfl); (case hn => rfl); (case hr => first | (go_simp; done) | (go_simp; rfl)); intro w14 hw; have hg : wr.grownBy w14 (some go9) := (by rw [hw]; exact HP13.2); have hp_ : Kd.R k23 23 w14 w.heap.size (fun _ => True) (.slice (some ⟨go9, 0, none⟩) x3_1.length co12) y119 := (by rw [hw, Ny119.out]; exact HP13.1); clear HP13; have n0_ := Aside0.mk (hp_); have n1_ := Aside0.mk ((by rw [hw]; exact below_set (below_set (below_set (HB.out) GB9.out) GB9.out) GB9.out : Below w.heap.size w w14)); clear HO_3; clear HB; have HO_3 := n0_; have HB := n1_; clear n0_ n1_; clear hg hw hp_; have p120 : 0 ≤ (x4_1 : Int) := of_decide_eq_true (by first | (with_reducible assumption) | assumption); have q120 : x4_1 < (l0.length : Int) := of_decide_eq_true (by first | (with_reducible assumption) | assumption); obtain ⟨ad120, e120, hx120_0, hx120_1, hx120_2⟩ := at_T23 HR0.out x4_1 p120 q120; cases e120; replace hx120_0 := (HB.out.cell (World.block_lt_of_cell? w _ hx120_0)).trans hx120_0; replace hx120_1 := (HB.out.cell (World.block_lt_of_cell? w _ hx120_1)).trans hx120_1; replace hx120_2 := (HB.out.cell (World.block_lt_of_cell? w _ hx120_2)).trans hx120_2; replace p120 := eq_true p120; replace q120 := eq_true q120; have p11 : 0 ≤ (x4_1 : Int) := of_decide_eq_true (by first | (with_reducible assumption) | assumption); have q11 : (x4_1 : Int) < ((x3_1.length : Int) : Int) := of_decide_eq_true (by first | (with_reducible assumption) | assumption); obtain ⟨ce11, hcl11, hM11, hcc11, hfr11⟩ := Kd.R_elem HO_3.out z23 (x4_1 : Int) p11 q11; obtain rfl := k23_openM hM11; have hx11_0 : w14.cell? ⟨go9, (x4_1 : Int).toNat * 3, none⟩ = some (.int .i64 ((rd_T23 y119 x4_1).f0)) := hcc11 0 _ rfl; have hx11_1 : w14.cell? ⟨go9, (x4_1 : Int).toNat * 3 + 1, none⟩ = some (.string ((rd_T23 y119 x4_1).f1)) := hcc11 1 _ rfl; have hx11_2 : w14.cell? ⟨go9, (x4_1 : Int).toNat * 3 + 2, none⟩ = some (.string ((rd_T23 y119 x4_1).f2)) := hcc11 2 _ rfl; have hf11_0 : w14.frozen? ⟨go9, (x4_1 : Int).toNat * 3, none⟩ = false := hfr11 0; have hf11_1 : w14.frozen? ⟨go9, (x4_1 : Int).toNat * 3 + 1, none⟩ = false := hfr11 1; have hf11_2 : w14.frozen? ⟨go9, (x4_1 : Int).toNat * 3 + 2, none⟩ = false := hfr11 2; clear hcl11 hcc11 hfr11 hM11; replace p11 := eq_true p11; replace q11 := eq_true q11; have HX15 := Aside0.mk (show Kd.R k23 23 w14 w.heap.size (fun _ => True) (.slice (some ⟨go9, 0, none⟩) x3_1.length co12) y119 from (by (with_reducible repeat (first | apply Kd.R_alloc | apply Kd.R_drewN | apply Kd.R_drew)); exact HO_3.out)); obtain ⟨ce15, hcl15, hM15, hcc15, hfr15⟩ := Kd.R_elem HX15.out z23 (x4_1 : Int) (of_decide_eq_true (by first | (with_reducible assumption) | assumption)) (by have h_ : (x4_1 : Int) < ((x3_1.length : Int) : Int) := of_decide_eq_true (by first | (with_reducible assumption) | assumption); first | exact h_ | (have e_ := (Kd.R_reads' HO_3.out).1; omega) | simpa using h_); obtain rfl := k23_openM hM15; have HP15 := Kd.R_seg HX15.out (x4_1 : Int) (of_decide_eq_true (by first | (with_reducible assumption) | assumption)) (by have h_ : (x4_1 : Int) < ((x3_1.length : Int) : Int) := of_decide_eq_true (by first | (with_reducible assumption) | assumption); first | exact h_ | (have e_ := (Kd.R_reads' HO_3.out).1; omega) | simpa using h_) (seg := [.int .i64 ((rd_T23 l0 x4_1).f0), .string ((rd_T23 l0 x4_1).f1), .string ((rd_T23 l0 x4_1).f2)]) (j := 0) hcl15 hcc15 (show 3 ≤ 3 from by decide) (x' := (⟨(rd_T23 l0 x4_1).f0, (rd_T23 l0 x4_1).f1, (rd_T23 l0 x4_1).f2⟩ : S23)) (k23_mkM _ _ _ (⟨(rd_T23 l0 x4_1).f0, (rd_T23 l0 x4_1).f1, (rd_T23 l0 x4_1).f2⟩ : S23) ) (fun _ hk => hk); have hx15_0 := hcc15 0 _ rfl; (try simp only [show (k23).sz = 3 from rfl, Nat.mul_one, Nat.add_zero] at hx15_0); have hf15_0 := hfr15 0; (try simp only [show (k23).sz = 3 from rfl, Nat.mul_one, Nat.add_zero] at hf15_0); have hx15_1 := hcc15 1 _ rfl; (try simp only [show (k23).sz = 3 from rfl, Nat.mul_one, Nat.add_zero] at hx15_1); have hf15_1 := hfr15 1; (try simp only [show (k23).sz = 3 from rfl, Nat.mul_one, Nat.add_zero] at hf15_1); have hx15_2 := hcc15 2 _ rfl; (try simp only [show (k23).sz = 3 from rfl, Nat.mul_one, Nat.add_zero] at hx15_2); have hf15_2 := hfr15 2; (try simp only [show (k23).sz = 3 from rfl, Nat.mul_one, Nat.add_zero] at hf15_2); clear hcl15 hcc15 hfr15 hM15) | ((with_reducible refine gate_store (t := 23) (p := 29) rfl ?_); refine store_event (t := 23) (p := 29) (v := ?vo_w16) (w1 := (((w14.setCell ⟨go9, (x4_1 : Int).toNat * 3, none⟩ (.int .i64 ((rd_T23 l0 x4_1).f0))).setCell ⟨go9, (x4_1 : Int).toNat * 3 + 1, none⟩ (.string ((rd_T23 l0 x4_1).f1))).setCell ⟨go9, (x4_1 : Int).toNat * 3 + 2, none⟩ (.string ((rd_T23 l0 x4_1).f2)))) ?hg ?ho ?hn ?hr ?_; (case ho => rfl); (case hg => rfl); (case hn => rfl); (case hr => first | (go_simp; done) | (go_simp; rfl)); intro w16 hw; have hg : w14.grownBy w16 (some go9) := (by rw [hw]; exact HP15.2); have hp_ : Kd.R k23 23 w16 w.heap.size (fun _ => True) (.slice (some ⟨go9, 0, none⟩) x3_1.length co12) y121 := (by rw [hw, Ny121.out]; exact HP15.1); clear HP15; have n0_ := Aside0.mk (hp_); have n1_ := Aside0.mk ((by rw [hw]; exact below_set (below_set (below_set (HB.out) GB9.out) GB9.out) GB9.out : Below w.heap.size w w16)); clear HO_3; clear HB; have HO_3 := n0_; have HB := n1_; clear n0_ n1_; clear hg hw hp_))
                go_roundg k1
                case measure => have := HK1.out; omega
                case rel => exact ⟨(y121), (wrap64 (x4_1 + 1)), (by first | rfl | (simp; done) | (simp [*]; done)), H', ⟨by have := HK1.out; omega⟩, ⟨by (with_reducible repeat (first | apply Kd.R_alloc | apply Kd.R_drewN | apply Kd.R_drew)); exact HO_3.out⟩, ⟨by repeat (first | (with_reducible first | exact HB.out | apply below_alloc | apply pw_below_drewN | apply below_drew1) | exact HB.out)⟩⟩
              · rw [if_neg c10] at H
                have c10b0 : decide (x4_1 < (l0.length : Int)) = false := decide_eq_false c10
                clear c10
                have H' := Aside0.mk H
                clear H
                obtain ⟨Ao17, co17, eo17⟩ := Kd.R_slice HO_3.out
                subst eo17
                have p9 : 0 ≤ (x4_1 : Int) := of_decide_eq_true (by first | (with_reducible assumption) | assumption)
                have q9 : (x4_1 : Int) < ((x3_1.length : Int) : Int) := of_decide_eq_true (by first | (with_reducible assumption) | assumption)
                obtain ⟨go9, co9, eo9, gb9, gl9, cl9, HG9⟩ := Kd.R_form HO_3.out (by omega)
                (first | cases eo9 | (injection eo9 with ea_ en_ ec_; (first | subst ea_ | (injection ea_ with ea_; subst ea_)); subst ec_; clear en_))
                have GB9 := Aside0.mk gb9
                have GG9 := Aside0.mk HG9
                clear gb9 gl9 HG9
                obtain ⟨ce9, hcl9, hM9, hcc9, hfr9⟩ := Kd.R_elem HO_3.out z23 (x4_1 : Int) p9 q9
                obtain rfl := k23_openM hM9
                have hx9_0 : wr.cell? ⟨go9, (x4_1 : Int).toNat * 3, none⟩ = some (.int .i64 ((rd_T23 x3_1 x4_1).f0)) := hcc9 0 _ rfl
                have hx9_1 : wr.cell? ⟨go9, (x4_1 : Int).toNat * 3 + 1, none⟩ = some (.string ((rd_T23 x3_1 x4_1).f1)) := hcc9 1 _ rfl
                have hx9_2 : wr.cell? ⟨go9, (x4_1 : Int).toNat * 3 + 2, none⟩ = some (.string ((rd_T23 x3_1 x4_1).f2)) := hcc9 2 _ rfl
                have hf9_0 : wr.frozen? ⟨go9, (x4_1 : Int).toNat * 3, none⟩ = false := hfr9 0
                have hf9_1 : wr.frozen? ⟨go9, (x4_1 : Int).toNat * 3 + 1, none⟩ = false := hfr9 1
                have hf9_2 : wr.frozen? ⟨go9, (x4_1 : Int).toNat * 3 + 2, none⟩ = false := hfr9 2
                clear hcl9 hcc9 hfr9 hM9
                replace p9 := eq_true p9
                replace q9 := eq_true q9
                have HX18 := Aside0.mk (show Kd.R k23 23 wr w.heap.size (fun _ => True) (.slice (some ⟨go9, 0, none⟩) x3_1.length co17) x3_1 from (by (with_reducible repeat (first | apply Kd.R_alloc | apply Kd.R_drewN | apply Kd.R_drew)); exact HO_3.out))
                obtain ⟨ce18, hcl18, hM18, hcc18, hfr18⟩ := Kd.R_elem HX18.out z23 (x4_1 : Int) (of_decide_eq_true (by first | (with_reducible assumption) | assumption)) (by have h_ : (x4_1 : Int) < ((x3_1.length : Int) : Int) := of_decide_eq_true (by first | (with_reducible assumption) | assumption); first | exact h_ | (have e_ := (Kd.R_reads' HO_3.out).1; omega) | simpa using h_)
                obtain rfl := k23_openM hM18
                have HP18 := Kd.R_seg HX18.out (x4_1 : Int) (of_decide_eq_true (by first | (with_reducible assumption) | assumption)) (by have h_ : (x4_1 : Int) < ((x3_1.length : Int) : Int) := of_decide_eq_true (by first | (with_reducible assumption) | assumption); first | exact h_ | (have e_ := (Kd.R_reads' HO_3.out).1; omega) | simpa using h_) (seg := [.int .i64 (-77), .string (⟨#[109, 97, 114, 107]⟩ : ByteArray), .string (⟨#[]⟩ : ByteArray)]) (j := 0) hcl18 hcc18 (show 3 ≤ 3 from by decide) (x' := (⟨(-77), (⟨#[109, 97, 114, 107]⟩ : ByteArray), (⟨#[]⟩ : ByteArray)⟩ : S23)) (k23_mkM _ _ _ (⟨(-77), (⟨#[109, 97, 114, 107]⟩ : ByteArray), (⟨#[]⟩ : ByteArray)⟩ : S23) ) (fun _ hk => hk)
                have hx18_0 := hcc18 0 _ rfl
                (try simp only [show (k23).sz = 3 from rfl, Nat.mul_one, Nat.add_zero] at hx18_0)
                have hf18_0 := hfr18 0
                (try simp only [show (k23).sz = 3 from rfl, Nat.mul_one, Nat.add_zero] at hf18_0)
                have hx18_1 := hcc18 1 _ rfl
                (try simp only [show (k23).sz = 3 from rfl, Nat.mul_one, Nat.add_zero] at hx18_1)
                have hf18_1 := hfr18 1
                (try simp only [show (k23).sz = 3 from rfl, Nat.mul_one, Nat.add_zero] at hf18_1)
                have hx18_2 := hcc18 2 _ rfl
                (try simp only [show (k23).sz = 3 from rfl, Nat.mul_one, Nat.add_zero] at hx18_2)
                have hf18_2 := hfr18 2
                (try simp only [show (k23).sz = 3 from rfl, Nat.mul_one, Nat.add_zero] at hf18_2)
                clear hcl18 hcc18 hfr18 hM18
                go_wp2_with (first | ((with_reducible refine gate_store (t := 23) (p := 18) rfl ?_); refine store_event (t := 23) (p := 18) (v := ?vo_w19) (w1 := (((wr.setCell ⟨go9, (x4_1 : Int).toNat * 3, none⟩ (.int .i64 (-77))).setCell ⟨go9, (x4_1 : Int).toNat * 3 + 1, none⟩ (.string (⟨#[109, 97, 114, 107]⟩ : ByteArray))).setCell ⟨go9, (x4_1 : Int).toNat * 3 + 2, none⟩ (.string (⟨#[]⟩ : ByteArray)))) ?hg ?ho ?hn ?hr ?_; (case ho => rfl); (case hg => rfl); (case hn => rfl); (case hr => first | (go_simp; done) | (go_simp; rfl)); intro w19 hw; have hg : wr.grownBy w19 (some go9) := (by rw [hw]; exact HP18.2); have hp_ : Kd.R k23 23 w19 w.heap.size (fun _ => True) (.slice (some ⟨go9, 0, none⟩) x3_1.length co17) y119 := (by rw [hw, Ny119.out]; exact HP18.1); clear HP18; have n0_ := Aside0.mk (hp_); have n1_ := Aside0.mk ((by rw [hw]; exact below_set (below_set (below_set (HB.out) GB9.out) GB9.out) GB9.out : Below w.heap.size w w19)); clear HO_3; clear HB; have HO_3 := n0_; have HB := n1_; clear n0_ n1_; clear hg hw hp_))
                go_roundg k1
                case measure => have := HK1.out; omega
                case rel => exact ⟨(y119), (wrap64 (x4_1 + 1)), (by first | rfl | (simp; done) | (simp [*]; done)), H', ⟨by have := HK1.out; omega⟩, ⟨by (with_reducible repeat (first | apply Kd.R_alloc | apply Kd.R_drewN | apply Kd.R_drew)); exact HO_3.out⟩, ⟨by repeat (first | (with_reducible first | exact HB.out | apply below_alloc | apply pw_below_drewN | apply below_drew1) | exact HB.out)⟩⟩
            · rw [if_neg c8] at H
              exact absurd H (by simp)
          · rw [if_neg c7] at H
            have c7b0 : decide (x4_1 < (x3_1.length : Int)) = false := decide_eq_false c7
            clear c7
            obtain rfl := Option.some.inj H
            obtain ⟨Ao20, co20, eo20⟩ := Kd.R_slice HO_3.out
            subst eo20
            go_wp2
            go_ret
            exact ⟨_, by first | rfl | (simp [errW_none, errW_some] <;> rfl) | (simp only [← hji2]; first | rfl | (simp [errW_none, errW_some] <;> rfl)) | (simp [*, errW_none, errW_some] <;> rfl), by (with_reducible repeat (first | apply Kd.R_alloc | apply Kd.R_drewN | apply Kd.R_drew)); exact HO_3.out, by repeat (first | (with_reducible first | exact HB.out | apply below_alloc | apply pw_below_drewN | apply below_drew1) | exact HB.out)⟩
    · rw [if_neg c4] at H
      exact absurd H (by simp)
  · rw [if_neg c3] at H
    exact absurd H (by simp)

end Go.Proofs.Ytljahmnilmjlpaa.P
