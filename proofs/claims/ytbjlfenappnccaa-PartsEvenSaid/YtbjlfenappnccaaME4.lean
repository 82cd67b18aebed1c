/- Several texts laid together (wip/tools/merge2.py): SortBPlain, Pf13, HKept, EvenPlain. -/
import Derived.Test.YtbjlfenappnccaaME2
import Derived.Test.YtbjlfenappnccaaME1
import Derived.Outline
import Derived.Test.YtbjlfenappnccaaSPartsEven
section
/- Keys in order: what sortB and the bounds of it are. -/
namespace Go.Proofs.Ytbjlfenappnccaa.P
open Go.RowKit Go.Proofs.YtbjlfenappnccaaW.PrintWords Go.Proofs.YtbjlfenappnccaaW.PrintLast Go.Proofs.Ytbjlfenappnccaa.Hand
set_option linter.unusedVariables false

theorem leB_trans (a b c : ByteArray) (h1 : leB a b = true) (h2 : leB b c = true) : leB a c = true := by
  unfold leB at *
  simp only [Bool.not_eq_true'] at *
  exact bl_trans _ _ _ h1 h2
theorem leB_total (a b : ByteArray) : (leB a b || leB b a) = true := by
  unfold leB
  by_cases h : Op.bytesLess a.toList b.toList = true
  · rw [bl_asymm _ _ h]; simp
  · have h' : Op.bytesLess a.toList b.toList = false := by simpa using h
    rw [h']; simp
theorem ba_eq {a b : ByteArray} (h : a.toList = b.toList) : a = b := by
  rw [ByteArray.toList_eq, ByteArray.toList_eq] at h
  have : a.data = b.data := Array.toList_inj.1 h
  cases a; cases b
  simp only at this
  rw [this]
theorem leB_anti {a b : ByteArray} (h1 : leB a b = true) (h2 : leB b a = true) : a = b := by
  unfold leB at *
  simp only [Bool.not_eq_true'] at *
  exact ba_eq (bl_eq _ _ h2 h1)
theorem leB_iff (a b : ByteArray) : leB a b = true ↔ cmpL a.toList b.toList ≤ 0 := by
  rw [cmpL_le]
  unfold leB
  simp
theorem leB_refl (a : ByteArray) : leB a a = true := by have := leB_total a a; simpa using this
theorem sortB_sorted (l : List ByteArray) : (sortB l).Pairwise (fun a b => leB a b = true) := List.pairwise_mergeSort leB_trans leB_total l
theorem sortB_le (l : List ByteArray) (i j : Nat) (hi : i ≤ j) (hj : j < (sortB l).length) : leB ((sortB l)[i]'(by omega)) (sortB l)[j] = true := by
  rcases Nat.eq_or_lt_of_le hi with h | h
  · subst h; exact leB_refl _
  · exact List.pairwise_iff_getElem.1 (sortB_sorted l) i j (by omega) hj h
theorem sortB_unique {l L : List ByteArray} (hp : L.Perm l) (hs : L.Pairwise (fun a b => leB a b = true)) : sortB l = L :=
  List.Perm.eq_of_pairwise (fun a b _ _ h1 h2 => leB_anti h1 h2) (sortB_sorted l) hs ((sortB_perm l).trans hp.symm)
theorem sortB_mem {l : List ByteArray} {b : ByteArray} : b ∈ sortB l ↔ b ∈ l := (sortB_perm l).mem_iff
/-! ### the bounds of it -/
theorem atB_pos (s : List ByteArray) (n i : Nat) (hs : 0 < s.length) (h : i + 1 < n) : atB s n i = s[(i + 1) * s.length / n]'(at_lt _ _ _ hs h) := by
  unfold atB
  rw [if_neg (by omega), List.getD_eq_getElem?_getD, List.getElem?_eq_getElem (at_lt _ _ _ hs h)]
  rfl
theorem blB_get (s : List ByteArray) (n i : Nat) (h : i < (blB s n).length) : (blB s n)[i] = atB s n i := by simp [blB]
theorem blB_le (l : List ByteArray) (n i j : Nat) (hij : i ≤ j) (hj : j < (blB (sortB l) n).length) : leB ((blB (sortB l) n)[i]'(by omega)) (blB (sortB l) n)[j] = true := by
  have hl := blB_length (sortB l) n
  rw [blB_get, blB_get]
  rcases Nat.eq_zero_or_pos (sortB l).length with h0 | h0
  · unfold atB; rw [if_pos h0, if_pos h0]; exact leB_refl _
  · rw [atB_pos _ _ _ h0 (by omega), atB_pos _ _ _ h0 (by omega)]
    exact sortB_le l _ _ (Nat.div_le_div_right (Nat.mul_le_mul_right _ (by omega))) (at_lt _ _ _ h0 (by omega))
theorem blB_mem (l : List ByteArray) (n i : Nat) (h0 : 0 < l.length) (h : i < (blB (sortB l) n).length) : (blB (sortB l) n)[i] ∈ l := by
  have hl := blB_length (sortB l) n
  have h0' : 0 < (sortB l).length := by rw [sortB_length]; exact h0
  rw [blB_get, atB_pos _ _ _ h0' (by omega)]
  exact sortB_mem.1 (List.getElem_mem _)
theorem blB_split (key : ByteArray) (l : List ByteArray) (n i : Nat) (h : i < (blB (sortB l) n).length) : i < cnt key (blB (sortB l) n) ↔ leB (blB (sortB l) n)[i] key = true := by
  rw [leB_iff]
  refine cnt_split key _ (fun j hj hp => ?_) i h
  exact (leB_iff _ _).1 (leB_trans _ _ _ (blB_le l n j (j + 1) (by omega) hj) ((leB_iff _ _).2 hp))
/-- as many parts as keys, all unlike: a key's part is its place -/
theorem cnt_place (l : List ByteArray) (hd : l.Nodup) (r : Nat) (hr : r < (sortB l).length) : cnt (sortB l)[r] (blB (sortB l) l.length) = r := by
  have hl := blB_length (sortB l) l.length
  have hsl := sortB_length l
  have hd2 : (sortB l).Nodup := (sortB_perm l).nodup_iff.2 hd
  have hne : ∀ i j, (hi : i < j) → (hj : j < (sortB l).length) → (sortB l)[i]'(by omega) ≠ (sortB l)[j] := fun i j hi hj => List.pairwise_iff_getElem.1 (List.nodup_iff_pairwise_ne.1 hd2) i j (by omega) hj hi
  have key : ∀ i, i < (blB (sortB l) l.length).length → (i < cnt (sortB l)[r] (blB (sortB l) l.length) ↔ i < r) := by
    intro i hi
    have h1 : i + 1 < (sortB l).length := by omega
    rw [blB_split _ l _ i hi, blB_get, atB_pos _ _ _ (by omega) (by omega)]
    have e : (i + 1) * (sortB l).length / l.length = i + 1 := by rw [hsl]; exact Nat.mul_div_cancel _ (by omega)
    have e2 : (sortB l)[(i + 1) * (sortB l).length / l.length]'(at_lt _ _ _ (by omega) (by omega)) = (sortB l)[i + 1] := by congr 1
    rw [e2]
    constructor
    · intro h
      rcases Nat.lt_or_ge i r with h2 | h2
      · exact h2
      · exact absurd (leB_anti (sortB_le l r (i + 1) (by omega) h1) h) (hne r (i + 1) (by omega) h1)
    · intro h
      exact sortB_le l (i + 1) r (by omega) hr
  have hc := cnt_le (sortB l)[r] (blB (sortB l) l.length)
  rcases Nat.lt_trichotomy (cnt (sortB l)[r] (blB (sortB l) l.length)) r with h | h | h
  · exact absurd ((key _ (by omega)).2 h) (Nat.lt_irrefl _)
  · exact h
  · have := (key r (by omega)).1 h
    omega
/-! ### three keys parted -/
theorem sort4 : sortB [⟨#[100]⟩, ⟨#[98]⟩, ⟨#[97]⟩, ⟨#[99]⟩] = [⟨#[97]⟩, ⟨#[98]⟩, ⟨#[99]⟩, ⟨#[100]⟩] := by
  apply sortB_unique
  · decide
  · simp only [List.pairwise_cons, leB, ByteArray.toList_eq]
    simp [Op.bytesLess]
end Go.Proofs.Ytbjlfenappnccaa.P

end
section
-- Written by a program of this session (wip/tools/hprint.py, over the kit's printer), not by hand. Lean checks it.
namespace Go.Proofs.Ytbjlfenappnccaa.P
open Go.RowKit Go.Proofs.YtbjlfenappnccaaW.PrintWords Go.Proofs.YtbjlfenappnccaaW.PrintLast Go.Proofs.YtbjlfenappnccaaW.PrintMore
attribute [local go_sem] max2_int min2_int max_two min_two max_three min_three max_four min_four
set_option linter.unusedVariables false
set_option linter.unusedSimpArgs false

/-! ### winnowlaw14_turned: function 13 -/
def winnowlaw14_turned.l0 : Nat → List ByteArray → Int → Option (List ByteArray × List ByteArray)
  | 0, _, _ => none
  | k + 1, x0, x3 => if x3 < (wrap64 ((x0.length : Int) / 2)) then (if 0 ≤ x3 then (if x3 < (x0.length : Int) then (if 0 ≤ (wrap64 ((wrap64 ((x0.length : Int) - 1)) - x3)) then (if (wrap64 ((wrap64 ((x0.length : Int) - 1)) - x3)) < (x0.length : Int) then (winnowlaw14_turned.l0 k ((x0.set (x3 : Int).toNat (rdOf ByteArray.empty x0 (wrap64 ((wrap64 ((x0.length : Int) - 1)) - x3)))).set ((wrap64 ((wrap64 ((x0.length : Int) - 1)) - x3)) : Int).toNat (rdOf ByteArray.empty x0 x3)) (wrap64 (x3 + 1))) else (none)) else (none)) else (none)) else (none)) else (if (x0.length : Int) > 0 then (if 0 ≤ (wrap64 ((x0.length : Int) - 1)) then (if (wrap64 ((x0.length : Int) - 1)) < (x0.length : Int) then (if (rdOf ByteArray.empty x0 (wrap64 ((x0.length : Int) - 1))).size + 1 ≤ 9223372036854775807 then ((some (x0.set ((wrap64 ((x0.length : Int) - 1)) : Int).toNat ((rdOf ByteArray.empty x0 (wrap64 ((x0.length : Int) - 1))) ++ (⟨#[122]⟩ : ByteArray)) : List ByteArray)).bind fun y160 => ((some (([] : List ByteArray) : List ByteArray)).bind fun y161 => (if y161.length + y160.length < 8796093022208 then (some ((y161 ++ y160), y160)) else (none)))) else (none)) else (none)) else (none)) else ((some (([] : List ByteArray) : List ByteArray)).bind fun y167 => (if y167.length + x0.length < 8796093022208 then (some ((y167 ++ x0), x0)) else (none))))
def winnowlaw14_turned.f (k : Nat) (l0 : List ByteArray) : Option (List ByteArray × List ByteArray) := winnowlaw14_turned.l0 k l0 0
theorem winnowlaw14_turned.mono_l : ∀ k, (∀ y0 y1, LeO (winnowlaw14_turned.l0 k y0 y1) (winnowlaw14_turned.l0 (k + 1) y0 y1))
  | 0 => fun _ _ r h => by simp [winnowlaw14_turned.l0] at h
  | k + 1 => by
    have ih0 := winnowlaw14_turned.mono_l k
    · intro y0 y1
      unfold winnowlaw14_turned.l0
      repeat' first
      | (with_reducible exact ih0 _ _)
      | (with_reducible exact LeO.refl _)
      | (with_reducible exact LeO.none _)
      | (with_reducible refine LeO.ite ?_ ?_)
      | (with_reducible refine LeO.bind ?_ (fun _ => ?_))
      | exact ih0 _ _
      | exact LeO.none _
      | refine LeO.ite ?_ ?_
      | refine LeO.bind ?_ (fun _ => ?_)
theorem winnowlaw14_turned.mono : ∀ a0 k, LeO (winnowlaw14_turned.f k a0) (winnowlaw14_turned.f (k + 1) a0) := by
  intro a0 k
  have ih0 := winnowlaw14_turned.mono_l k
  unfold winnowlaw14_turned.f
  repeat' first
      | (with_reducible exact ih0 _ _)
      | (with_reducible exact LeO.refl _)
      | (with_reducible exact LeO.none _)
      | (with_reducible refine LeO.ite ?_ ?_)
      | (with_reducible refine LeO.bind ?_ (fun _ => ?_))
      | exact ih0 _ _
      | exact LeO.none _
      | refine LeO.ite ?_ ?_
      | refine LeO.bind ?_ (fun _ => ?_)
set_option maxHeartbeats 8000000 in
set_option maxRecDepth 100000 in
theorem winnowlaw14_turned.calls (k : Nat) (P0_ : Nat → Prop) (u9000_ : Value) (l0 : List ByteArray) (r1 : List ByteArray) (r2 : List ByteArray) (w0 w : World) (hB : Below w0.heap.size w0 w) (ho0 : Kd.R Kd.string 9 w w0.heap.size P0_ u9000_ l0) (h : winnowlaw14_turned.f k l0 = some (r1, r2)) :
    Calls Try.prog 13 #[u9000_] w fun e w' => ∃ v0_ : Value, e = .returned (v0_) ∧ Kd.R Kd.string 9 w' w0.heap.size (fun k_ => (P0_ k_ ∨ w.heap.size ≤ k_) ∧ some k_ ≠ (u9000_ : Value).ownBlock) v0_ r1 ∧ Kd.R Kd.string 9 w' w0.heap.size (fun k_ => (P0_ k_ ∨ w.heap.size ≤ k_)) u9000_ r2 ∧ Below w0.heap.size w0 w' ∧ Kept w w' (fun k_ => P0_ k_) := by
  have HO0 := Aside0.mk (show Kd.R Kd.string 9 w w0.heap.size (fun k_ => (P0_ k_ ∨ w.heap.size ≤ k_)) u9000_ l0 from Kd.R_mono ho0 (fun k_ hk => (.inl hk)))
  have HK := Aside0.mk (Kept.refl w (fun k_ => P0_ k_))
  have HW0 := Aside0.mk hB.size
  have HB := Aside0.mk hB
  clear hB
  have H : (winnowlaw14_turned.l0 k l0 0) = some (r1, r2) := h
  clear h
  have H' := Aside0.mk H
  clear H
  go_enter Try.func13, Try.ntmps13
  go_wp2
  go_loopg [3] k (fun kq v3 w' => ∃ (x0_1 : List ByteArray) (x3_1 : Int), v3 = .int .i64 x3_1 ∧ Aside0 (winnowlaw14_turned.l0 kq x0_1 x3_1 = some (r1, r2)) ∧ Aside0 (kq ≤ k) ∧ Aside0 (Kd.R Kd.string 9 w' w0.heap.size (fun k_ => (P0_ k_ ∨ w.heap.size ≤ k_)) u9000_ x0_1) ∧ Aside0 (Kept w w' (fun k_ => P0_ k_)) ∧ Aside0 (Below w0.heap.size w0 w'))
  case atStart => exact ⟨(l0), (0), (by first | rfl | (simp; done) | (simp [*]; done)), H', ⟨Nat.le_refl _⟩, ⟨by (with_reducible repeat (first | apply Kd.R_alloc | apply Kd.R_drewN | apply Kd.R_drew)); exact HO0.out⟩, ⟨by repeat (first | (with_reducible first | exact HK.out | apply Kept.alloc | apply Kept.drewN | apply Kept.drew) | exact HK.out)⟩, ⟨by repeat (first | (with_reducible first | exact HB.out | apply below_alloc | apply pw_below_drewN | apply below_drew1) | exact HB.out)⟩⟩
  case round =>
    clear H'
    try clear c1
    obtain ⟨x0_1, x3_1, rfl, HA, HK1, HO_0, HK, HB⟩ := hrel
    cases gk with
    | zero => exact absurd HA.out (by simp [winnowlaw14_turned.l0])
    | succ k1 =>
      have H := HA.out
      clear HA
      simp only [winnowlaw14_turned.l0] at H
      by_cases c2 : x3_1 < (wrap64 ((x0_1.length : Int) / 2))
      · rw [if_pos c2] at H
        have c2b0 : decide (x3_1 < (wrap64 ((x0_1.length : Int) / 2))) = true := decide_eq_true c2
        clear c2
        by_cases c3 : 0 ≤ x3_1
        · rw [if_pos c3] at H
          have c3b0 : decide (0 ≤ x3_1) = true := decide_eq_true c3
          clear c3
          by_cases c4 : x3_1 < (x0_1.length : Int)
          · rw [if_pos c4] at H
            have c4b0 : decide (x3_1 < (x0_1.length : Int)) = true := decide_eq_true c4
            clear c4
            obtain ⟨ji5, hji5⟩ : ∃ j_ : Int, (wrap64 ((wrap64 ((x0_1.length : Int) - 1)) - x3_1)) = j_ := ⟨_, rfl⟩
            replace H : (if 0 ≤ (ji5) then (if (ji5) < (x0_1.length : Int) then (winnowlaw14_turned.l0 k1 ((x0_1.set (x3_1 : Int).toNat (rdOf ByteArray.empty x0_1 (ji5))).set ((ji5) : Int).toNat (rdOf ByteArray.empty x0_1 x3_1)) (wrap64 (x3_1 + 1))) else (none)) else (none)) = some (r1, r2) := by first | (rw [hji5] at H; exact H) | (simp only [hji5] at H ⊢; exact H)
            have hji5w : (IntKind.i64.wrap ((wrap64 ((x0_1.length : Int) - 1)) - x3_1)) = ji5 := (i64_w _).trans hji5
            by_cases c6 : 0 ≤ (ji5)
            · rw [if_pos c6] at H
              have c6b0 : decide (0 ≤ (ji5)) = true := decide_eq_true c6
              clear c6
              by_cases c7 : (ji5) < (x0_1.length : Int)
              · rw [if_pos c7] at H
                have c7b0 : decide ((ji5) < (x0_1.length : Int)) = true := decide_eq_true c7
                clear c7
                obtain ⟨y157, hy157⟩ : ∃ y_ : List ByteArray, y_ = (x0_1.set (x3_1 : Int).toNat (rdOf ByteArray.empty x0_1 (ji5))) := ⟨_, rfl⟩
                replace H : (winnowlaw14_turned.l0 k1 (y157.set ((ji5) : Int).toNat (rdOf ByteArray.empty x0_1 x3_1)) (wrap64 (x3_1 + 1))) = some (r1, r2) := by first | (rw [hy157]; with_reducible exact H) | (have H2_ := (Option.bind_some _ _).symm.trans H; rw [hy157]; with_reducible exact H2_) | (have H2_ := (Option.bind_some _ _).symm.trans H; with_reducible exact H2_) | with_reducible exact H | (rw [hy157]; exact H) | exact H
                have Ny157 := Aside0.mk hy157
                clear hy157
                obtain ⟨y158, hy158⟩ : ∃ y_ : List ByteArray, y_ = (y157.set ((ji5) : Int).toNat (rdOf ByteArray.empty x0_1 x3_1)) := ⟨_, rfl⟩
                replace H : (winnowlaw14_turned.l0 k1 y158 (wrap64 (x3_1 + 1))) = some (r1, r2) := by first | (rw [hy158]; with_reducible exact H) | (have H2_ := (Option.bind_some _ _).symm.trans H; rw [hy158]; with_reducible exact H2_) | (have H2_ := (Option.bind_some _ _).symm.trans H; with_reducible exact H2_) | with_reducible exact H | (rw [hy158]; exact H) | exact H
                have Ny158 := Aside0.mk hy158
                clear hy158
                have H' := Aside0.mk H
                clear H
                obtain ⟨Ao10, co10, eo10⟩ := Kd.R_slice HO_0.out
                subst eo10
                have p155 : 0 ≤ (x3_1 : Int) := of_decide_eq_true (by first | (with_reducible assumption) | assumption)
                have q155 : x3_1 < (x0_1.length : Int) := of_decide_eq_true (by first | (with_reducible assumption) | assumption)
                obtain ⟨ad155, e155, hx155_0⟩ := Kd.at_string (Kd.R_reads' HO_0.out).2.2 x3_1 p155 q155
                cases e155
                replace p155 := eq_true p155
                replace q155 := eq_true q155
                have p156 : 0 ≤ ((ji5) : Int) := of_decide_eq_true (by first | (with_reducible assumption) | assumption)
                have q156 : (ji5) < (x0_1.length : Int) := of_decide_eq_true (by first | (with_reducible assumption) | assumption)
                obtain ⟨ad156, e156, hx156_0⟩ := Kd.at_string (Kd.R_reads' HO_0.out).2.2 (ji5) p156 q156
                obtain rfl : ad155 = ad156 := (by injection e156)
                replace p156 := eq_true p156
                replace q156 := eq_true q156
                have p8 : 0 ≤ (x3_1 : Int) := of_decide_eq_true (by first | (with_reducible assumption) | assumption)
                have q8 : (x3_1 : Int) < ((x0_1.length : Int) : Int) := of_decide_eq_true (by first | (with_reducible assumption) | assumption)
                obtain ⟨go8, co8, eo8, gb8, gl8, cl8, HG8⟩ := Kd.R_form HO_0.out (by omega)
                (first | cases eo8 | (injection eo8 with ea_ en_ ec_; (first | subst ea_ | (injection ea_ with ea_; subst ea_)); subst ec_; clear en_))
                have GB8 := Aside0.mk gb8
                have GG8 := Aside0.mk HG8
                clear gb8 gl8 HG8
                have HMgo8 := Aside0.mk (show (P0_ go8 ∨ w.heap.size ≤ go8) from (HO_0.out.1 _ rfl))
                (first | simp only [add_plain] at hx155_0 | skip)
                (first | simp only [add_plain] at hx156_0 | skip)
                obtain ⟨hx8_0, hf8_0⟩ := Kd.R_celln (⟨#[]⟩ : ByteArray) HO_0.out (x3_1 : Int) p8 q8
                replace p8 := eq_true p8
                replace q8 := eq_true q8
                have HP11 := Kd.R_putg HO_0.out (x3_1 : Int) (rdOf ByteArray.empty x0_1 (ji5))
                go_wp2_with (first | ((with_reducible refine gate_store (t := 9) (p := 26) rfl ?_); refine store_event (t := 9) (p := 26) (v := ?vo_w12) (w1 := (wr.setCell ⟨go8, (x3_1 : Int).toNat, none⟩ (.string (rdOf ByteArray.empty x0_1 (ji5))))) ?hg ?ho ?hn ?hr ?_; (case ho => rfl); (case hg => rfl); (case hn => rfl); (case hr => first | (go_simp; done) | (go_simp; rfl)); intro w12 hw; have hg : wr.grownBy w12 (some go8) := (by rw [hw]; exact HP11.2); have hp_ : Kd.R Kd.string 9 w12 w0.heap.size (fun k_ => (P0_ k_ ∨ w.heap.size ≤ k_)) (.slice (some ⟨go8, 0, none⟩) x0_1.length co10) y157 := (by rw [hw, Ny157.out]; exact HP11.1); clear HP11; have n0_ := Aside0.mk (hp_); have n1_ := Aside0.mk ((by rw [hw]; exact below_set (HB.out) GB8.out : Below w0.heap.size w0 w12)); have n2_ := Aside0.mk (Kept.of_grown (S := (fun k_ => P0_ k_)) hg (by repeat (first | (with_reducible first | exact HK.out | apply Kept.alloc | apply Kept.drewN | apply Kept.drew) | exact HK.out)) (fun k_ e_ => (HO_0.out.1 k_ e_))); clear HO_0; clear HB; clear HK; have HO_0 := n0_; have HB := n1_; have HK := n2_; clear n0_ n1_ n2_; clear hg hw hp_; have p9 : 0 ≤ ((ji5) : Int) := of_decide_eq_true (by first | (with_reducible assumption) | assumption); have q9 : ((ji5) : Int) < ((x0_1.length : Int) : Int) := of_decide_eq_true (by first | (with_reducible assumption) | assumption); obtain ⟨hx9_0, hf9_0⟩ := Kd.R_celln (⟨#[]⟩ : ByteArray) HO_0.out ((ji5) : Int) p9 q9; replace p9 := eq_true p9; replace q9 := eq_true q9; obtain ⟨hy13_, hz13_⟩ := Kd.R_celln (⟨#[]⟩ : ByteArray) HO_0.out ((ji5) : Int) (of_decide_eq_true (by first | (with_reducible assumption) | assumption)) (of_decide_eq_true (by first | (with_reducible assumption) | assumption)); have HP13 := Kd.R_putg HO_0.out ((ji5) : Int) (rdOf ByteArray.empty x0_1 x3_1)) | ((with_reducible refine gate_store (t := 9) (p := 34) rfl ?_); refine store_event (t := 9) (p := 34) (v := ?vo_w14) (w1 := (w12.setCell ⟨go8, ((ji5) : Int).toNat, none⟩ (.string (rdOf ByteArray.empty x0_1 x3_1)))) ?hg ?ho ?hn ?hr ?_; (case ho => rfl); (case hg => rfl); (case hn => rfl); (case hr => first | (go_simp; done) | (go_simp; rfl)); intro w14 hw; have hg : w12.grownBy w14 (some go8) := (by rw [hw]; exact HP13.2); have hp_ : Kd.R Kd.string 9 w14 w0.heap.size (fun k_ => (P0_ k_ ∨ w.heap.size ≤ k_)) (.slice (some ⟨go8, 0, none⟩) x0_1.length co10) y158 := (by rw [hw, Ny158.out]; exact HP13.1); clear HP13; have n0_ := Aside0.mk (hp_); have n1_ := Aside0.mk ((by rw [hw]; exact below_set (HB.out) GB8.out : Below w0.heap.size w0 w14)); have n2_ := Aside0.mk (Kept.of_grown (S := (fun k_ => P0_ k_)) hg (by repeat (first | (with_reducible first | exact HK.out | apply Kept.alloc | apply Kept.drewN | apply Kept.drew) | exact HK.out)) (fun k_ e_ => (HO_0.out.1 k_ e_))); clear HO_0; clear HB; clear HK; have HO_0 := n0_; have HB := n1_; have HK := n2_; clear n0_ n1_ n2_; clear hg hw hp_))
                go_roundg k1
                case measure => have := HK1.out; omega
                case rel => exact ⟨(y158), (wrap64 (x3_1 + 1)), (by first | rfl | (simp; done) | (simp [*]; done)), H', ⟨by have := HK1.out; omega⟩, ⟨by (with_reducible repeat (first | apply Kd.R_alloc | apply Kd.R_drewN | apply Kd.R_drew)); exact HO_0.out⟩, ⟨by repeat (first | (with_reducible first | exact HK.out | apply Kept.alloc | apply Kept.drewN | apply Kept.drew) | exact HK.out)⟩, ⟨by repeat (first | (with_reducible first | exact HB.out | apply below_alloc | apply pw_below_drewN | apply below_drew1) | exact HB.out)⟩⟩
              · rw [if_neg c7] at H
                exact absurd H (by simp)
            · rw [if_neg c6] at H
              exact absurd H (by simp)
          · rw [if_neg c4] at H
            exact absurd H (by simp)
        · rw [if_neg c3] at H
          exact absurd H (by simp)
      · rw [if_neg c2] at H
        have c2b0 : decide (x3_1 < (wrap64 ((x0_1.length : Int) / 2))) = false := decide_eq_false c2
        clear c2
        by_cases c15 : (x0_1.length : Int) > 0
        · rw [if_pos c15] at H
          have c15b0 : decide (0 < (x0_1.length : Int)) = true := decide_eq_true c15
          have c15b1 : decide (0 < x0_1.length) = true := decide_eq_true (by omega)
          clear c15
          obtain ⟨ji16, hji16⟩ : ∃ j_ : Int, (wrap64 ((x0_1.length : Int) - 1)) = j_ := ⟨_, rfl⟩
          replace H : (if 0 ≤ (ji16) then (if (ji16) < (x0_1.length : Int) then (if (rdOf ByteArray.empty x0_1 (ji16)).size + 1 ≤ 9223372036854775807 then ((some (x0_1.set ((ji16) : Int).toNat ((rdOf ByteArray.empty x0_1 (ji16)) ++ (⟨#[122]⟩ : ByteArray)) : List ByteArray)).bind fun y160 => ((some (([] : List ByteArray) : List ByteArray)).bind fun y161 => (if y161.length + y160.length < 8796093022208 then (some ((y161 ++ y160), y160)) else (none)))) else (none)) else (none)) else (none)) = some (r1, r2) := by first | (rw [hji16] at H; exact H) | (simp only [hji16] at H ⊢; exact H)
          have hji16w : (IntKind.i64.wrap ((x0_1.length : Int) - 1)) = ji16 := (i64_w _).trans hji16
          by_cases c17 : 0 ≤ (ji16)
          · rw [if_pos c17] at H
            have c17b0 : decide (0 ≤ (ji16)) = true := decide_eq_true c17
            clear c17
            by_cases c18 : (ji16) < (x0_1.length : Int)
            · rw [if_pos c18] at H
              have c18b0 : decide ((ji16) < (x0_1.length : Int)) = true := decide_eq_true c18
              clear c18
              by_cases c19 : (rdOf ByteArray.empty x0_1 (ji16)).size + 1 ≤ 9223372036854775807
              · rw [if_pos c19] at H
                have c19b0 := eq_true c19
                have c19b1 : decide ((rdOf ByteArray.empty x0_1 (ji16)).size + 1 ≤ 9223372036854775807) = true := decide_eq_true c19
                try have c19b2 : (9223372036854775807 < (rdOf ByteArray.empty x0_1 (ji16)).size + 1) = False := eq_false (Nat.not_lt.2 c19)
                obtain ⟨y160, hy160⟩ : ∃ y_ : List ByteArray, y_ = (x0_1.set ((ji16) : Int).toNat ((rdOf ByteArray.empty x0_1 (ji16)) ++ (⟨#[122]⟩ : ByteArray))) := ⟨_, rfl⟩
                replace H : ((some (([] : List ByteArray) : List ByteArray)).bind fun y161 => (if y161.length + y160.length < 8796093022208 then (some ((y161 ++ y160), y160)) else (none))) = some (r1, r2) := by first | (rw [hy160]; with_reducible exact H) | (have H2_ := (Option.bind_some _ _).symm.trans H; rw [hy160]; with_reducible exact H2_) | (have H2_ := (Option.bind_some _ _).symm.trans H; with_reducible exact H2_) | with_reducible exact H | (rw [hy160]; exact H) | exact H
                have Ny160 := Aside0.mk hy160
                clear hy160
                obtain ⟨y161, hy161⟩ : ∃ y_ : List ByteArray, y_ = (([] : List ByteArray)) := ⟨_, rfl⟩
                replace H : (if y161.length + y160.length < 8796093022208 then (some ((y161 ++ y160), y160)) else (none)) = some (r1, r2) := by first | (rw [hy161]; with_reducible exact H) | (have H2_ := (Option.bind_some _ _).symm.trans H; rw [hy161]; with_reducible exact H2_) | (have H2_ := (Option.bind_some _ _).symm.trans H; with_reducible exact H2_) | with_reducible exact H | (rw [hy161]; exact H) | exact H
                have Ny161 := Aside0.mk hy161
                clear hy161
                by_cases c21 : y161.length + y160.length < 8796093022208
                · rw [if_pos c21] at H
                  have LMc21 := Aside0.mk c21
                  clear c21
                  obtain ⟨y164, hy164⟩ : ∃ y_ : List ByteArray, y_ = (y161 ++ y160) := ⟨_, rfl⟩
                  replace H : (some (y164, y160)) = some (r1, r2) := by first | (rw [hy164]; with_reducible exact H) | (have H2_ := (Option.bind_some _ _).symm.trans H; rw [hy164]; with_reducible exact H2_) | (have H2_ := (Option.bind_some _ _).symm.trans H; with_reducible exact H2_) | with_reducible exact H | (rw [hy164]; exact H) | exact H
                  have Ny164 := Aside0.mk hy164
                  clear hy164
                  simp only [Option.some.injEq, Prod.mk.injEq] at H
                  obtain ⟨rfl, rfl⟩ := H
                  obtain ⟨Ao22, co22, eo22⟩ := Kd.R_slice HO_0.out
                  subst eo22
                  have p159 : 0 ≤ ((ji16) : Int) := of_decide_eq_true (by first | (with_reducible assumption) | assumption)
                  have q159 : (ji16) < (x0_1.length : Int) := of_decide_eq_true (by first | (with_reducible assumption) | assumption)
                  obtain ⟨ad159, e159, hx159_0⟩ := Kd.at_string (Kd.R_reads' HO_0.out).2.2 (ji16) p159 q159
                  cases e159
                  replace p159 := eq_true p159
                  replace q159 := eq_true q159
                  have p20 : 0 ≤ ((ji16) : Int) := of_decide_eq_true (by first | (with_reducible assumption) | assumption)
                  have q20 : ((ji16) : Int) < ((x0_1.length : Int) : Int) := of_decide_eq_true (by first | (with_reducible assumption) | assumption)
                  obtain ⟨go20, co20, eo20, gb20, gl20, cl20, HG20⟩ := Kd.R_form HO_0.out (by omega)
                  (first | cases eo20 | (injection eo20 with ea_ en_ ec_; (first | subst ea_ | (injection ea_ with ea_; subst ea_)); subst ec_; clear en_))
                  have GB20 := Aside0.mk gb20
                  have GG20 := Aside0.mk HG20
                  clear gb20 gl20 HG20
                  have HMgo20 := Aside0.mk (show (P0_ go20 ∨ w.heap.size ≤ go20) from (HO_0.out.1 _ rfl))
                  (first | simp only [add_plain] at hx159_0 | skip)
                  obtain ⟨hx20_0, hf20_0⟩ := Kd.R_celln (⟨#[]⟩ : ByteArray) HO_0.out ((ji16) : Int) p20 q20
                  replace p20 := eq_true p20
                  replace q20 := eq_true q20
                  have HP23 := Kd.R_putg HO_0.out ((ji16) : Int) ((rdOf ByteArray.empty x0_1 (ji16)) ++ (⟨#[122]⟩ : ByteArray))
                  go_wp2_with (first | ((with_reducible refine gate_store (t := 9) (p := 49) rfl ?_); refine store_event (t := 9) (p := 49) (v := ?vo_w24) (w1 := (wr.setCell ⟨go20, ((ji16) : Int).toNat, none⟩ (.string ((rdOf ByteArray.empty x0_1 (ji16)) ++ (⟨#[122]⟩ : ByteArray))))) ?hg ?ho ?hn ?hr ?_; (case ho => rfl); (case hg => rfl); (case hn => rfl); (case hr => first | (go_simp; done) | (go_simp; rfl)); intro w24 hw; have hg : wr.grownBy w24 (some go20) := (by rw [hw]; exact HP23.2); have hp_ : Kd.R Kd.string 9 w24 w0.heap.size (fun k_ => (P0_ k_ ∨ w.heap.size ≤ k_)) (.slice (some ⟨go20, 0, none⟩) x0_1.length co22) y160 := (by rw [hw, Ny160.out]; exact HP23.1); clear HP23; have n0_ := Aside0.mk (hp_); have n1_ := Aside0.mk ((by rw [hw]; exact below_set (HB.out) GB20.out : Below w0.heap.size w0 w24)); have n2_ := Aside0.mk (Kept.of_grown (S := (fun k_ => P0_ k_)) hg (by repeat (first | (with_reducible first | exact HK.out | apply Kept.alloc | apply Kept.drewN | apply Kept.drew) | exact HK.out)) (fun k_ e_ => (HO_0.out.1 k_ e_))); clear HO_0; clear HB; clear HK; have HO_0 := n0_; have HB := n1_; have HK := n2_; clear n0_ n1_ n2_; clear hg hw hp_) | ((with_reducible refine gate_dst (N := 50) rfl ?_); refine Kd.R_lit Kd.string _ 9 ?hg (N := 50) ?hd (xs := ([] : List ByteArray)) (inner := []) (ok := fun _ => True) (okp := fun _ => True) ?hr ?hp (fun _ hk => hk) trivial (Below.refl _ _) (Nat.le_refl _) (by simp) ?_; (case hd => rfl); (case hg => rfl); (case hr => first | (go_simp; done) | (go_simp; rfl)); (case hp => exact (Reps.none _ _)); intro v162 w25 ho26 hb hg_ hnew_; clear hg_ hnew_; (first | rw [← Ny161.out] at ho26 | (simp only [Int.reduceToNat] at ho26; rw [← Ny161.out] at ho26)); have n0_ := Aside0.mk (Kd.R_elder' (by (with_reducible repeat (first | apply Kd.R_alloc | apply Kd.R_drewN | apply Kd.R_drew)); exact HO_0.out) (Kd.R_base ho26) hb); have n1_ := Aside0.mk (Kd.R_lower (Kd.R_new' (Kd.R_newM (M := fun k_ => (P0_ k_ ∨ w.heap.size ≤ k_)) ho26 (by first | exact HK.out.1 | exact (show Kept w _ (fun k_ => P0_ k_) from by repeat (first | (with_reducible first | exact HK.out | apply Kept.alloc | apply Kept.drewN | apply Kept.drew) | exact HK.out)).1) (fun k_ h_ => .inr h_)) (Kd.R_lt (by (with_reducible repeat (first | apply Kd.R_alloc | apply Kd.R_drewN | apply Kd.R_drew)); exact HO_0.out))) (below_size (by repeat (first | (with_reducible first | exact HB.out | apply below_alloc | apply pw_below_drewN | apply below_drew1) | exact HB.out)))); have n2_ := Aside0.mk (Kept.below (S := (fun k_ => P0_ k_)) (by repeat (first | (with_reducible first | exact HK.out | apply Kept.alloc | apply Kept.drewN | apply Kept.drew) | exact HK.out)) hb); have n3_ := Aside0.mk (below_step (by repeat (first | (with_reducible first | exact HB.out | apply below_alloc | apply pw_below_drewN | apply below_drew1) | exact HB.out)) hb); clear HO_0; clear HK; clear HB; have HO_0 := n0_; have HO163 := n1_; have HK := n2_; have HB := n3_; clear n0_ n1_ n2_ n3_; clear hb ho26) | ((with_reducible refine gate_builtin (b := .append) (xs := #[.tmp 50, .tmp 51]) rfl ?_); at_builtin; refine Kd.R_append_rows Kd.string (w0 := w0) w0.heap.size rfl (.tmp 50) (.tmp 51) 24 9 (.string ⟨#[]⟩) 16 rfl Try.underlying24 info9 rfl (by decide) (by omega) v162 y161 y160 _ _ _ (fun k_ => (P0_ k_ ∨ w.heap.size ≤ k_) ∧ some k_ ≠ (.slice (some ⟨go20, 0, none⟩) x0_1.length co22 : Value).ownBlock) (fun _ => False) rfl rfl ?aO ?aR (fun _ _ h => h) (fun _ h => h.elim) ?aF ?aB ?aS ?aL ?_; (case aR => rw [show x0_1.length = y160.length from (Kd.R_reads' HO_0.out).1]; repeat (first | exact (Kd.R_reads' HO_0.out).2.2 | (with_reducible refine Kd.C_alloc ?_ _) | (with_reducible refine Kd.C_drewN ?_ _) | (with_reducible refine Kd.C_drew ?_))); (case aB => exact (by repeat (first | (with_reducible first | exact HB.out | apply below_alloc | apply pw_below_drewN | apply below_drew1) | exact HB.out))); (case aF => exact (fun k_ hk => ⟨(.inr (Nat.le_trans (by first | exact HK.out.1 | exact (show Kept w _ (fun k_ => P0_ k_) from by repeat (first | (with_reducible first | exact HK.out | apply Kept.alloc | apply Kept.drewN | apply Kept.drew) | exact HK.out)).1) hk)), Kd.fresh' (Kd.R_lt (by (with_reducible repeat (first | apply Kd.R_alloc | apply Kd.R_drewN | apply Kd.R_drew)); exact HO_0.out)) k_ hk⟩)); (case aO => exact (by (with_reducible repeat (first | apply Kd.R_alloc | apply Kd.R_drewN | apply Kd.R_drew)); exact Kd.R_mono HO163.out (fun _ hk => ⟨hk.1.1, hk.2⟩))); (case aS => exact (below_size (by repeat (first | (with_reducible first | exact HB.out | apply below_alloc | apply pw_below_drewN | apply below_drew1) | exact HB.out)))); (case aL => have := LMc21.out; have hlx_ := (Kd.R_reads' HO_0.out).1; omega); intro v165 w27 ho hb hg hat; rw [← Ny164.out] at ho; have n0_ := Aside0.mk (Kd.R_after (ok := (fun k_ => (P0_ k_ ∨ w.heap.size ≤ k_))) (by (with_reducible repeat (first | apply Kd.R_alloc | apply Kd.R_drewN | apply Kd.R_drew)); exact HO_0.out) hg hat); have n1_ := Aside0.mk (hb); have n2_ := Aside0.mk (Kept.of_grown (S := (fun k_ => P0_ k_)) hg (by repeat (first | (with_reducible first | exact HK.out | apply Kept.alloc | apply Kept.drewN | apply Kept.drew) | exact HK.out)) (fun k_ e_ => (HO163.out.1 k_ e_).1.1)); have n3_ := Aside0.mk (ho); clear HO_0; clear HB; clear HK; clear HO163; have HO_0 := n0_; have HB := n1_; have HK := n2_; have HO166 := n3_; clear n0_ n1_ n2_ n3_; clear ho hb hg hat))
                  go_ret
                  exact ⟨_, by first | rfl | (simp [errW_none, errW_some] <;> rfl) | (simp only [← hji16]; first | rfl | (simp [errW_none, errW_some] <;> rfl)) | (simp [*, errW_none, errW_some] <;> rfl), by (with_reducible repeat (first | apply Kd.R_alloc | apply Kd.R_drewN | apply Kd.R_drew)); exact HO166.out, by (with_reducible repeat (first | apply Kd.R_alloc | apply Kd.R_drewN | apply Kd.R_drew)); exact Kd.R_mono HO_0.out (fun _ hk => hk.1), by repeat (first | (with_reducible first | exact HB.out | apply below_alloc | apply pw_below_drewN | apply below_drew1) | exact HB.out), by repeat (first | (with_reducible first | exact HK.out | apply Kept.alloc | apply Kept.drewN | apply Kept.drew) | exact HK.out)⟩
                · rw [if_neg c21] at H
                  exact absurd H (by simp)
              · rw [if_neg c19] at H
                exact absurd H (by simp)
            · rw [if_neg c18] at H
              exact absurd H (by simp)
          · rw [if_neg c17] at H
            exact absurd H (by simp)
        · rw [if_neg c15] at H
          have c15b0 : decide (0 < (x0_1.length : Int)) = false := decide_eq_false c15
          have c15b1 : decide (0 < x0_1.length) = false := decide_eq_false (by omega)
          clear c15
          obtain ⟨y167, hy167⟩ : ∃ y_ : List ByteArray, y_ = (([] : List ByteArray)) := ⟨_, rfl⟩
          replace H : (if y167.length + x0_1.length < 8796093022208 then (some ((y167 ++ x0_1), x0_1)) else (none)) = some (r1, r2) := by first | (rw [hy167]; with_reducible exact H) | (have H2_ := (Option.bind_some _ _).symm.trans H; rw [hy167]; with_reducible exact H2_) | (have H2_ := (Option.bind_some _ _).symm.trans H; with_reducible exact H2_) | with_reducible exact H | (rw [hy167]; exact H) | exact H
          have Ny167 := Aside0.mk hy167
          clear hy167
          by_cases c28 : y167.length + x0_1.length < 8796093022208
          · rw [if_pos c28] at H
            have LMc28 := Aside0.mk c28
            clear c28
            obtain ⟨y170, hy170⟩ : ∃ y_ : List ByteArray, y_ = (y167 ++ x0_1) := ⟨_, rfl⟩
            replace H : (some (y170, x0_1)) = some (r1, r2) := by first | (rw [hy170]; with_reducible exact H) | (have H2_ := (Option.bind_some _ _).symm.trans H; rw [hy170]; with_reducible exact H2_) | (have H2_ := (Option.bind_some _ _).symm.trans H; with_reducible exact H2_) | with_reducible exact H | (rw [hy170]; exact H) | exact H
            have Ny170 := Aside0.mk hy170
            clear hy170
            simp only [Option.some.injEq, Prod.mk.injEq] at H
            obtain ⟨rfl, rfl⟩ := H
            obtain ⟨Ao29, co29, eo29⟩ := Kd.R_slice HO_0.out
            subst eo29
            go_wp2_with (first | ((with_reducible refine gate_dst (N := 50) rfl ?_); refine Kd.R_lit Kd.string _ 9 ?hg (N := 50) ?hd (xs := ([] : List ByteArray)) (inner := []) (ok := fun _ => True) (okp := fun _ => True) ?hr ?hp (fun _ hk => hk) trivial (Below.refl _ _) (Nat.le_refl _) (by simp) ?_; (case hd => rfl); (case hg => rfl); (case hr => first | (go_simp; done) | (go_simp; rfl)); (case hp => exact (Reps.none _ _)); intro v168 w30 ho31 hb hg_ hnew_; clear hg_ hnew_; (first | rw [← Ny167.out] at ho31 | (simp only [Int.reduceToNat] at ho31; rw [← Ny167.out] at ho31)); have n0_ := Aside0.mk (Kd.R_elder' (by (with_reducible repeat (first | apply Kd.R_alloc | apply Kd.R_drewN | apply Kd.R_drew)); exact HO_0.out) (Kd.R_base ho31) hb); have n1_ := Aside0.mk (Kd.R_lower (Kd.R_new' (Kd.R_newM (M := fun k_ => (P0_ k_ ∨ w.heap.size ≤ k_)) ho31 (by first | exact HK.out.1 | exact (show Kept w _ (fun k_ => P0_ k_) from by repeat (first | (with_reducible first | exact HK.out | apply Kept.alloc | apply Kept.drewN | apply Kept.drew) | exact HK.out)).1) (fun k_ h_ => .inr h_)) (Kd.R_lt (by (with_reducible repeat (first | apply Kd.R_alloc | apply Kd.R_drewN | apply Kd.R_drew)); exact HO_0.out))) (below_size (by repeat (first | (with_reducible first | exact HB.out | apply below_alloc | apply pw_below_drewN | apply below_drew1) | exact HB.out)))); have n2_ := Aside0.mk (Kept.below (S := (fun k_ => P0_ k_)) (by repeat (first | (with_reducible first | exact HK.out | apply Kept.alloc | apply Kept.drewN | apply Kept.drew) | exact HK.out)) hb); have n3_ := Aside0.mk (below_step (by repeat (first | (with_reducible first | exact HB.out | apply below_alloc | apply pw_below_drewN | apply below_drew1) | exact HB.out)) hb); clear HO_0; clear HK; clear HB; have HO_0 := n0_; have HO169 := n1_; have HK := n2_; have HB := n3_; clear n0_ n1_ n2_ n3_; clear hb ho31) | ((with_reducible refine gate_builtin (b := .append) (xs := #[.tmp 50, .tmp 51]) rfl ?_); at_builtin; refine Kd.R_append_rows Kd.string (w0 := w0) w0.heap.size rfl (.tmp 50) (.tmp 51) 24 9 (.string ⟨#[]⟩) 16 rfl Try.underlying24 info9 rfl (by decide) (by omega) v168 y167 x0_1 _ _ _ (fun k_ => (P0_ k_ ∨ w.heap.size ≤ k_) ∧ some k_ ≠ (.slice Ao29 x0_1.length co29 : Value).ownBlock) (fun _ => False) rfl rfl ?aO ?aR (fun _ _ h => h) (fun _ h => h.elim) ?aF ?aB ?aS ?aL ?_; (case aR => repeat (first | exact (Kd.R_reads' HO_0.out).2.2 | (with_reducible refine Kd.C_alloc ?_ _) | (with_reducible refine Kd.C_drewN ?_ _) | (with_reducible refine Kd.C_drew ?_))); (case aB => exact (by repeat (first | (with_reducible first | exact HB.out | apply below_alloc | apply pw_below_drewN | apply below_drew1) | exact HB.out))); (case aF => exact (fun k_ hk => ⟨(.inr (Nat.le_trans (by first | exact HK.out.1 | exact (show Kept w _ (fun k_ => P0_ k_) from by repeat (first | (with_reducible first | exact HK.out | apply Kept.alloc | apply Kept.drewN | apply Kept.drew) | exact HK.out)).1) hk)), Kd.fresh' (Kd.R_lt (by (with_reducible repeat (first | apply Kd.R_alloc | apply Kd.R_drewN | apply Kd.R_drew)); exact HO_0.out)) k_ hk⟩)); (case aO => exact (by (with_reducible repeat (first | apply Kd.R_alloc | apply Kd.R_drewN | apply Kd.R_drew)); exact Kd.R_mono HO169.out (fun _ hk => ⟨hk.1.1, hk.2⟩))); (case aS => exact (below_size (by repeat (first | (with_reducible first | exact HB.out | apply below_alloc | apply pw_below_drewN | apply below_drew1) | exact HB.out)))); (case aL => have := LMc28.out; omega); intro v171 w32 ho hb hg hat; rw [← Ny170.out] at ho; have n0_ := Aside0.mk (Kd.R_after (ok := (fun k_ => (P0_ k_ ∨ w.heap.size ≤ k_))) (by (with_reducible repeat (first | apply Kd.R_alloc | apply Kd.R_drewN | apply Kd.R_drew)); exact HO_0.out) hg hat); have n1_ := Aside0.mk (hb); have n2_ := Aside0.mk (Kept.of_grown (S := (fun k_ => P0_ k_)) hg (by repeat (first | (with_reducible first | exact HK.out | apply Kept.alloc | apply Kept.drewN | apply Kept.drew) | exact HK.out)) (fun k_ e_ => (HO169.out.1 k_ e_).1.1)); have n3_ := Aside0.mk (ho); clear HO_0; clear HB; clear HK; clear HO169; have HO_0 := n0_; have HB := n1_; have HK := n2_; have HO172 := n3_; clear n0_ n1_ n2_ n3_; clear ho hb hg hat))
            go_ret
            exact ⟨_, by first | rfl | (simp [errW_none, errW_some] <;> rfl) | (simp [*, errW_none, errW_some] <;> rfl), by (with_reducible repeat (first | apply Kd.R_alloc | apply Kd.R_drewN | apply Kd.R_drew)); exact HO172.out, by (with_reducible repeat (first | apply Kd.R_alloc | apply Kd.R_drewN | apply Kd.R_drew)); exact Kd.R_mono HO_0.out (fun _ hk => hk.1), by repeat (first | (with_reducible first | exact HB.out | apply below_alloc | apply pw_below_drewN | apply below_drew1) | exact HB.out), by repeat (first | (with_reducible first | exact HK.out | apply Kept.alloc | apply Kept.drewN | apply Kept.drew) | exact HK.out)⟩
          · rw [if_neg c28] at H
            exact absurd H (by simp)

end Go.Proofs.Ytbjlfenappnccaa.P

end
section
/- kept: the texts stand, and the mark behind them: contract by hand. -/
namespace Go.Proofs.Ytbjlfenappnccaa.P
open Go.RowKit Go.Proofs.YtbjlfenappnccaaW.PrintWords Go.Proofs.YtbjlfenappnccaaW.PrintLast Go.Proofs.YtbjlfenappnccaaW.PrintMore Go.Proofs.Ytbjlfenappnccaa.Hand
set_option linter.unusedVariables false
set_option linter.unusedSimpArgs false

theorem cut_cap {P : Program} (t e : TypeId) (kh : IntKind) {i : TypeInfo} (ht : P.underlying t = some (.slice e)) (hi : P.info? e = some i) (A : Option Addr) (n c : Nat) (j : Int) (h0 : 0 ≤ j) (hm : j ≤ c) (hc : n ≤ c) :
    ∀ W : World, (Instr.slice t (.slice A n c) none (some (.int kh j)) none).run P W = .ok (.slice A j.toNat c) W := by
  intro W
  have hel : P.elem t = e := by simp [Program.elem, ht]
  have hu : P.underlying t = some (.slice (P.elem t)) := by rw [hel]; exact ht
  have ha : (A.map fun x => x.add 0) = A := by cases A <;> simp [Addr.add]
  rw [run_slice_h W t A n c hu kh j h0 (by omega), hel]
  simp [sizeOf, typeInfo, hi, sliced, Result.andThen, ha]
theorem sameT_loop (l : List ByteArray) (hl : l.length ≤ 140737488355328) (d : Nat) : ∀ (k i : Nat), i + d = l.length → d < k → winnowlaw14_sameTexts.l0 k l l (i : Int) = some true := by
  induction d with
  | zero =>
    intro k i hi hk
    obtain ⟨k, rfl⟩ : ∃ m, k = m + 1 := ⟨k - 1, by omega⟩
    rw [winnowlaw14_sameTexts.l0, if_neg (by omega)]
  | succ d ih =>
    intro k i hi hk
    obtain ⟨k, rfl⟩ : ∃ m, k = m + 1 := ⟨k - 1, by omega⟩
    rw [winnowlaw14_sameTexts.l0, if_pos (by omega), if_pos (by omega), if_pos (by omega), if_pos rfl, wrap_succB i (by omega), ih k (i + 1) (by omega) (by omega)]
theorem sameT_eq (l : List ByteArray) (hl : l.length ≤ 140737488355328) (k : Nat) (hk : l.length < k) : winnowlaw14_sameTexts.f k l l = some true := by
  unfold winnowlaw14_sameTexts.f
  rw [if_pos rfl]
  exact sameT_loop l hl l.length k 0 (by omega) hk
def mk_ : ByteArray := ⟨#[109, 97, 114, 107]⟩
set_option maxHeartbeats 4000000 in
theorem kept_any (w : World) (A A1 : Option Addr) (c c1 n : Nat) (l : List ByteArray) (hC : Kd.C Kd.string w A (n + 1) (l ++ [mk_])) (hCn : Kd.C Kd.string w A l.length l) (hc : n + 1 ≤ c) (hn : l.length = n) (hC1 : Kd.C Kd.string w A1 l.length l) (hc1 : n ≤ c1) (hl : n ≤ 140737488351232) :
    Calls Try.prog 12 #[.slice A n c, .slice A1 n c1] w fun e w' => e = .returned (.bool true) ∧ Below w.heap.size w w' := by
  have HSM := Aside0.mk (winnowlaw14_sameTexts.calls (n + 1) A c l A1 c1 l _ w hCn (by omega) hC1 (by omega) (sameT_eq l (by omega) _ (by omega)))
  rw [hn] at HSM
  obtain ⟨ad, e, hx0⟩ := Kd.at_string hC (n : Int) (Int.natCast_nonneg n) (by omega)
  subst e
  rw [rdb_nat _ n (by simp; omega), Int.toNat_natCast] at hx0
  have hm : (l ++ [mk_])[n]'(by simp; omega) = mk_ := by
    rw [List.getElem_append_right (by omega)]
    simp
  rw [hm] at hx0
  have hcut := cut_cap (P := Try.prog) 24 9 .i64 Try.underlying24 (info_parts info9).choose_spec.1 (some ad) n c ((n + 1 : Nat) : Int) (by omega) (by omega) (by omega)
  rw [Int.toNat_natCast] at hcut
  have hw : IntKind.i64.wrap ((n : Int) + 1) = ((n + 1 : Nat) : Int) := by rw [IntKind.wrap_i64]; omega
  have hw2 : wrap64 ((n : Int) + 1) = ((n + 1 : Nat) : Int) := wrap_succB n (by omega)
  have hcut2 : ∀ W : World, (Instr.slice 24 (.slice (some ad) n c) none (some (.int .i64 ((n : Int) + 1))) none).run Try.prog W = .ok (.slice (some ad) (n + 1) c) W := hcut
  have p1 : ((0 : Int) ≤ (n : Int)) = True := eq_true (by omega)
  have p2 : ((0 : Int) ≤ (n : Int) + 1) = True := eq_true (by omega)
  have p3 : ((n : Int) + 1 ≤ (c : Int)) = True := eq_true (by omega)
  have q2 : ((n : Int) < (n : Int) + 1) = True := eq_true (by omega)
  have q3 : (n < n + 1) = True := eq_true (by omega)
  have q1 : ((n : Int) < ((n + 1 : Nat) : Int)) = True := eq_true (by omega)
  have HX0 := Aside0.mk hx0
  clear hC hCn hc hn hC1 hc1 hl hm
  go_enter Try.func12, Try.ntmps12
  go_wp2_with fail
  refine HSM.out.mono ?_
  rintro e w2 ⟨rfl, hD⟩
  have HB := Aside0.mk hD.below
  have hx1 := cell_kept HX0.out (Kept.of_below hD.below (fun _ => False)) (fun h => h)
  clear hD hx0
  go_wp2_with fail
  have hmk : (mk_.toList == ([109, 97, 114, 107] : List UInt8)) = true := by rw [ByteArray.toList_eq]; rfl
  go_ret
  exact ⟨by first | (rw [hmk]; done) | (show Ending.returned (.bool (mk_.toList == ([109, 97, 114, 107] : List UInt8))) = _; rw [hmk]), HB.out⟩
/-! ### turned -/
theorem turned_loop (n : Nat) (hn : n ≤ 8796093021952) (d : Nat) : ∀ (k i : Nat) (l : List ByteArray), i + d = n / 2 → l.length = n → (∀ b ∈ l, b.size ≤ 140737488351232) → d < k → ∃ L : List ByteArray, winnowlaw14_turned.l0 k l (i : Int) = some (L, L) ∧ L.length = n ∧ ∀ b ∈ L, b.size ≤ 140737488351233 := by
  induction d with
  | zero =>
    intro k i l hi hl hx hk
    obtain ⟨k, rfl⟩ : ∃ m, k = m + 1 := ⟨k - 1, by omega⟩
    have hw : wrap64 ((l.length : Int) / 2) = ((n / 2 : Nat) : Int) := by unfold wrap64; omega
    rw [winnowlaw14_turned.l0, hw, if_neg (by omega)]
    rcases Nat.eq_zero_or_pos n with h0 | h0
    · rw [if_neg (by omega), Option.bind_some, if_pos (by rw [List.length_nil]; omega), List.nil_append]
      exact ⟨l, rfl, hl, fun b hb => by have := hx b hb; omega⟩
    · obtain ⟨m, rfl⟩ : ∃ m, n = m + 1 := ⟨n - 1, by omega⟩
      have hw2 : wrap64 ((l.length : Int) - 1) = (m : Int) := by rw [hl]; unfold wrap64; omega
      rw [if_pos (by omega), hw2, if_pos (by omega), if_pos (by omega), rdb_nat l m (by omega), Int.toNat_natCast]
      have hsz := hx l[m] (List.getElem_mem _)
      rw [if_pos (by omega), Option.bind_some, Option.bind_some, if_pos (by rw [List.length_nil, List.length_set]; omega), List.nil_append]
      refine ⟨_, rfl, by rw [List.length_set]; exact hl, fun b hb => ?_⟩
      rcases List.mem_or_eq_of_mem_set hb with h | h
      · have := hx b h; omega
      · subst h
        rw [ByteArray.size_append]
        show l[m].size + 1 ≤ _
        omega
  | succ d ih =>
    intro k i l hi hl hx hk
    obtain ⟨k, rfl⟩ : ∃ m, k = m + 1 := ⟨k - 1, by omega⟩
    have hw : wrap64 ((l.length : Int) / 2) = ((n / 2 : Nat) : Int) := by unfold wrap64; omega
    have hw2 : wrap64 ((wrap64 ((l.length : Int) - 1)) - (i : Int)) = ((n - 1 - i : Nat) : Int) := by rw [hl]; unfold wrap64; omega
    rw [winnowlaw14_turned.l0, hw, if_pos (by omega), hw2, if_pos (by omega), if_pos (by omega), if_pos (by omega), if_pos (by omega), wrap_succB i (by omega)]
    refine ih k (i + 1) _ (by omega) (by rw [List.length_set, List.length_set]; exact hl) (fun b hb => ?_) (by omega)
    rcases List.mem_or_eq_of_mem_set hb with h | h
    · rcases List.mem_or_eq_of_mem_set h with h | h
      · exact hx b h
      · subst h; rw [rdb_nat l _ (by omega)]; exact hx _ (List.getElem_mem _)
    · subst h; rw [rdb_nat l _ (by omega)]; exact hx _ (List.getElem_mem _)
theorem turned_eq (l : List ByteArray) (hl : l.length ≤ 8796093021952) (hx : ∀ b ∈ l, b.size ≤ 140737488351232) (k : Nat) (hk : l.length < k) : ∃ L : List ByteArray, winnowlaw14_turned.f k l = some (L, L) ∧ L.length = l.length ∧ ∀ b ∈ L, b.size ≤ 140737488351233 := by
  unfold winnowlaw14_turned.f
  exact turned_loop l.length hl (l.length / 2) k 0 l (by omega) rfl hx (by omega)
end Go.Proofs.Ytbjlfenappnccaa.P

end
section
/- PartsEven in plain lists. -/
namespace Go.Proofs.Ytbjlfenappnccaa.P
open Go.RowKit Go.Proofs.YtbjlfenappnccaaW.PrintWords Go.Proofs.YtbjlfenappnccaaW.PrintLast Go.Proofs.Ytbjlfenappnccaa.Hand
set_option linter.unusedVariables false
set_option linter.unusedSimpArgs false

/-- some number of rounds that is enough -/
@[irreducible] def BIG : Nat := 281474976710656
theorem BIG_eq : BIG = 281474976710656 := by unfold BIG; rfl
theorem ba_beq (a b : ByteArray) : (a.toList == b.toList) = decide (a = b) := by
  by_cases h : a = b
  · subst h; simp
  · rw [decide_eq_false h]
    have : a.toList ≠ b.toList := fun e => h (ba_eq e)
    simpa using this
theorem PB_ok {l : List ByteArray} {n : Int} (h : l.length ≤ 65536) (h2 : 1 ≤ n ∧ n ≤ 65535) (hx : ∀ b ∈ l, b.size ≤ 1024) : parts_Bounds.f l n = some (blB (sortB l) n.toNat, 0) := by
  unfold parts_Bounds.f
  rw [bo_ok (by omega) h2 hx]
theorem blB_szs {l : List ByteArray} {n : Nat} (h : l.length ≤ 65536) (hn : n ≤ 65535) (hx : ∀ b ∈ l, b.size ≤ 1024) (h0 : 0 < l.length) : szs (blB (sortB l) n) := by
  refine ⟨by rw [blB_length]; omega, fun b hb => ?_⟩
  obtain ⟨j, hj, rfl⟩ := List.getElem_of_mem hb
  have := hx _ (blB_mem l n j h0 hj)
  omega
theorem szs_small {l : List ByteArray} (h : l.length ≤ 65536) (hx : ∀ b ∈ l, b.size ≤ 1024) : szs l := ⟨by omega, fun b hb => by have := hx b hb; omega⟩
theorem bl4 : blB (sortB [⟨#[100]⟩, ⟨#[98]⟩, ⟨#[97]⟩, ⟨#[99]⟩]) 4 = [⟨#[98]⟩, ⟨#[99]⟩, ⟨#[100]⟩] := by
  rw [sort4]
  rfl
theorem works_eq (k : Nat) (hk : BIG ≤ k) : winnowlaw14_works.f k = some true := by
  unfold BIG at hk
  unfold winnowlaw14_works.f
  have hs : szs [(⟨#[98]⟩ : ByteArray), ⟨#[99]⟩, ⟨#[100]⟩] := by unfold szs; decide
  have c1 : cnt ⟨#[97]⟩ [(⟨#[98]⟩ : ByteArray), ⟨#[99]⟩, ⟨#[100]⟩] = 0 := by simp [cnt, ByteArray.toList_eq, cmpL, Op.bytesLess]
  have c2 : cnt ⟨#[98]⟩ [(⟨#[98]⟩ : ByteArray), ⟨#[99]⟩, ⟨#[100]⟩] = 1 := by simp [cnt, ByteArray.toList_eq, cmpL, Op.bytesLess]
  have c3 : cnt ⟨#[122]⟩ [(⟨#[98]⟩ : ByteArray), ⟨#[99]⟩, ⟨#[100]⟩] = 3 := by simp [cnt, ByteArray.toList_eq, cmpL, Op.bytesLess]
  rw [PB_ok (by decide) (by decide) (by decide), Option.bind_some]
  rw [show ((4 : Int).toNat) = 4 from rfl, bl4]
  rw [if_pos rfl, sameT_eq _ (by decide) k (by simp; omega), Option.bind_some, if_pos rfl, (Range_eq _ _ hs k (by simp; omega)).1, Option.bind_some, c1, if_pos (show ((0 : Nat) : Int) = 0 from rfl), (Range_eq _ _ hs k (by simp; omega)).1, Option.bind_some, c2, if_pos (show ((1 : Nat) : Int) = 1 from rfl), (Range_eq _ _ hs k (by simp; omega)).1, Option.bind_some, c3]
  rfl
/-! ### the bounds are keys of the sample, and do not fall -/
theorem even_l4 (L c : List ByteArray) (i : Nat) (hi : i < c.length) (hL : L.length ≤ 40) (d : Nat) : ∀ (k j : Nat) (b : Bool), j + d = L.length → (b = true ∨ c[i] ∈ L.drop j) →
    winnowlaw14_PartsEven.l4 (k + d + 1) L c (i : Int) b (j : Int) = winnowlaw14_PartsEven.l4 (k + 1) L c (i : Int) true (L.length : Int) := by
  induction d with
  | zero =>
    intro k j b hj hb
    obtain rfl : j = L.length := by omega
    rcases hb with rfl | hb
    · rfl
    · rw [List.drop_length] at hb; cases hb
  | succ d ih =>
    intro k j b hj hb
    have h : j < L.length := by omega
    rw [show k + (d + 1) + 1 = (k + d + 1) + 1 by omega, winnowlaw14_PartsEven.l4, if_pos (by omega), wrap_succB j (by omega)]
    cases b with
    | true => rw [if_pos rfl]; exact ih k (j + 1) true (by omega) (.inl rfl)
    | false =>
      rw [if_neg (by decide), if_pos (by omega), if_pos (by omega), if_pos (by omega), rdb_nat L j h, rdb_nat c i hi, ba_beq]
      refine ih k (j + 1) _ (by omega) ?_
      rcases hb with hb | hb
      · cases hb
      · rw [List.drop_eq_getElem_cons h] at hb
        rcases List.mem_cons.1 hb with hb | hb
        · left; rw [decide_eq_true_iff]; exact hb.symm
        · right; exact hb
theorem even_l3 (L c : List ByteArray) (hL : L.length ≤ 40) (hc : c.length ≤ 65535) (hm : ∀ i, (h : i < c.length) → c[i] ∈ L) (hs : ∀ b ∈ c, b.size ≤ 1024) (hle : ∀ i, (h : i + 1 < c.length) → leB c[i] c[i + 1] = true) (d : Nat) : ∀ (k i : Nat), i + d = c.length → 100 * d + 2000 < k →
    winnowlaw14_PartsEven.l3 k L c (i : Int) = some true := by
  induction d with
  | zero =>
    intro k i hi hk
    obtain ⟨k, rfl⟩ : ∃ m, k = m + 1 := ⟨k - 1, by omega⟩
    rw [winnowlaw14_PartsEven.l3, if_neg (by omega)]
  | succ d ih =>
    intro k i hi hk
    obtain ⟨k, rfl⟩ : ∃ m, k = m + L.length + 2 := ⟨k - (L.length + 2), by omega⟩
    have h : i < c.length := by omega
    rw [show k + L.length + 2 = (k + L.length + 1) + 1 by omega, winnowlaw14_PartsEven.l3, if_pos (by omega)]
    have := even_l4 L c i h hL L.length k 0 false (by omega) (.inr (by rw [List.drop_zero]; exact hm i h))
    rw [show ((0 : Nat) : Int) = 0 from rfl] at this
    rw [this, winnowlaw14_PartsEven.l4, if_neg (by omega), if_pos rfl]
    rw [wrap_succB i (by omega)]
    cases i with
    | zero => rw [if_neg (by decide)]; exact ih k 1 (by omega) (by omega)
    | succ i =>
      have hz := hs c[i] (List.getElem_mem _)
      rw [if_pos (by omega), wrap_pred i (by omega), if_pos (by omega), if_pos (by omega), if_pos (by omega), if_pos (by omega), rdb_nat c i (by omega), rdb_nat c (i + 1) h, nums_Compare_eq _ _ (by omega) k (by omega), Option.bind_some, if_neg (by have := (leB_iff _ _).1 (hle i h); omega)]
      exact ih k (i + 2) (by omega) (by omega)
theorem even_j5 (L : List ByteArray) (hL : L.length ≤ 40) (h0 : 0 < L.length) (hx : ∀ b ∈ L, b.size ≤ 1024) (n : Int) (b : Bool) (hb : b = false → 1 ≤ n ∧ n ≤ 65535) (k : Nat) (hk : BIG ≤ k) : winnowlaw14_PartsEven.j5 k n L b = some true := by
  unfold BIG at hk
  obtain ⟨k, rfl⟩ : ∃ m, k = m + 2 := ⟨k - 2, by omega⟩
  rw [winnowlaw14_PartsEven.j5]
  cases b with
  | true => rw [if_pos rfl]
  | false =>
    have hn := hb rfl
    have hlen := blB_length (sortB L) n.toNat
    rw [if_neg (by decide), PB_ok (by omega) hn hx, Option.bind_some, if_pos rfl]
    have e : wrap64 (n - 1) = ((n.toNat - 1 : Nat) : Int) := by unfold wrap64; omega
    have e2 : (((blB (sortB L) n.toNat).length : Int) != wrap64 (n - 1)) = false := by rw [e, hlen]; simp
    show winnowlaw14_PartsEven.j6 (k + 1) L (blB (sortB L) n.toNat) (((blB (sortB L) n.toNat).length : Int) != wrap64 (n - 1)) = some true
    rw [e2, winnowlaw14_PartsEven.j6, if_neg (by decide)]
    exact even_l3 L _ hL (by omega) (fun i h => blB_mem L _ i h0 h) (fun b hb => by obtain ⟨j, hj, rfl⟩ := List.getElem_of_mem hb; exact hx _ (blB_mem L _ j h0 hj)) (fun i h => blB_le L _ i (i + 1) (by omega) h) (blB (sortB L) n.toNat).length k 0 (by omega) (by omega)
/-! ### as many parts as keys: one each -/
theorem even_l2 (L : List ByteArray) (hL : L.length ≤ 40) (h0 : 0 < L.length) (hx : ∀ b ∈ L, b.size ≤ 1024) (hd : L.Nodup) (n : Int) (d : Nat) : ∀ (k i : Nat) (seen : List Int), i + d = L.length → seen.length = L.length → (∀ p, p < L.length → (∀ t, (ht : t < L.length) → t < i → cnt L[t] (blB (sortB L) L.length) ≠ p) → rd seen p = 0) → BIG + 2 * d + 2 < k →
    winnowlaw14_PartsEven.l2 k n L (blB (sortB L) L.length) seen (i : Int) = some true := by
  have hlen := blB_length (sortB L) L.length
  have hsl := sortB_length L
  induction d with
  | zero =>
    intro k i seen hi hs hP hk
    obtain ⟨k, rfl⟩ : ∃ m, k = m + 1 := ⟨k - 1, by omega⟩
    rw [winnowlaw14_PartsEven.l2, if_neg (by omega)]
    by_cases h1 : n < 1
    · rw [if_pos h1]; exact even_j5 L hL h0 hx n true (fun h => by cases h) k (by omega)
    · rw [if_neg h1]
      refine even_j5 L hL h0 hx n _ (fun h => ?_) k (by omega)
      have := of_decide_eq_false h
      omega
  | succ d ih =>
    intro k i seen hi hs hP hk
    obtain ⟨k, rfl⟩ : ∃ m, k = m + 1 := ⟨k - 1, by omega⟩
    have h : i < L.length := by omega
    have hB := BIG_eq
    obtain ⟨r, hr⟩ : ∃ r, r = cnt L[i] (blB (sortB L) L.length) := ⟨_, rfl⟩
    have hrl : r < L.length := by have := cnt_le L[i] (blB (sortB L) L.length); omega
    rw [winnowlaw14_PartsEven.l2, if_pos (by omega), if_pos (by omega), rdb_nat L i h, (Range_eq _ L[i] (blB_szs (by omega) (by omega) hx h0) k (by omega)).1, Option.bind_some, ← hr]
    rw [if_neg (by omega), if_neg (by omega), if_pos (by omega), if_pos (by omega)]
    have hz : rd seen (r : Int) = 0 := by
      refine hP r hrl (fun t ht hti e => ?_)
      have place : ∀ j, (hj : j < L.length) → ∃ q, ∃ hq : q < (sortB L).length, (sortB L)[q] = L[j] := fun j hj => by
        obtain ⟨q, hq, e⟩ := List.getElem_of_mem (sortB_mem.2 (List.getElem_mem hj))
        exact ⟨q, hq, e⟩
      obtain ⟨q1, hq1, e1⟩ := place t ht
      obtain ⟨q2, hq2, e2⟩ := place i h
      rw [← e1, cnt_place L hd q1 hq1] at e
      rw [← e2, cnt_place L hd q2 hq2] at hr
      have : L[t] = L[i] := by rw [← e1, ← e2]; congr 1; omega
      exact List.pairwise_iff_getElem.1 (List.nodup_iff_pairwise_ne.1 hd) t i ht h hti this
    rw [if_pos hz, wrap_succB i (by omega), Int.toNat_natCast]
    refine ih k (i + 1) (seen.set r 1) (by omega) (by rw [List.length_set]; exact hs) (fun p hp hno => ?_) (by omega)
    have hne : r ≠ p := by rw [hr]; exact hno i h (by omega)
    have h1 := hP p hp (fun t ht hti => hno t ht (by omega))
    unfold rd at h1 ⊢
    rw [Int.toNat_natCast] at h1 ⊢
    rw [List.getD_eq_getElem?_getD] at h1 ⊢
    rw [List.getElem?_set_ne hne]
    exact h1
theorem even_end (a0 : List ByteArray) (n : Int) (L : List ByteArray) (i : Int) (hL : L.length ≤ 40) (hx : ∀ b ∈ L, b.size ≤ 1024) (hd : L.Nodup) (k : Nat) (hk : BIG + 200 < k) : winnowlaw14_PartsEven.j1 k a0 n L i false = some true := by
  obtain ⟨k, rfl⟩ : ∃ m, k = m + 2 := ⟨k - 2, by omega⟩
  rw [winnowlaw14_PartsEven.j1, if_neg (by decide)]
  by_cases h0 : L.length = 0
  · rw [if_pos (by omega), works_eq _ (by omega)]; rfl
  · have hlen := blB_length (sortB L) L.length
    rw [if_neg (by omega), PB_ok (by omega) (by omega) hx, Option.bind_some, if_pos rfl]
    have e2 : (((blB (sortB L) L.length).length : Int) != wrap64 ((L.length : Int) - 1)) = false := by
      have e : wrap64 ((L.length : Int) - 1) = ((L.length - 1 : Nat) : Int) := by unfold wrap64; omega
      rw [e, hlen]; simp
    show winnowlaw14_PartsEven.j3 (k + 1) n L (blB (sortB L) L.length) (((blB (sortB L) L.length).length : Int) != wrap64 ((L.length : Int) - 1)) = some true
    rw [e2, winnowlaw14_PartsEven.j3, if_neg (by decide), if_pos (by omega), if_pos (by omega), Int.toNat_natCast]
    refine even_l2 L hL (by omega) hx hd n L.length k 0 _ (by omega) (List.length_replicate ..) (fun p hp _ => ?_) (by omega)
    unfold rd
    rw [Int.toNat_natCast, List.getD_eq_getElem?_getD, List.getElem?_replicate, if_pos hp]
    rfl
/-! ### the keys that are unlike -/
noncomputable local instance memD (x : ByteArray) (L : List ByteArray) : Decidable (x ∈ L) := Classical.propDecidable _
theorem even_l1 (a0 : List ByteArray) (n : Int) (L : List ByteArray) (i : Nat) (hi : i < a0.length) (hil : i < 40) (hL : L.length ≤ 40) (d : Nat) : ∀ (k j : Nat) (b : Bool), j + d = L.length →
    winnowlaw14_PartsEven.l1 (k + d + 1) a0 n L (i : Int) b (j : Int) = (if b = true ∨ a0[i] ∈ L.drop j then winnowlaw14_PartsEven.l0 k a0 n L ((i + 1 : Nat) : Int) else winnowlaw14_PartsEven.l0 k a0 n (L ++ [a0[i]]) ((i + 1 : Nat) : Int)) := by
  induction d with
  | zero =>
    intro k j b hj
    rw [winnowlaw14_PartsEven.l1, if_neg (by omega), wrap_succB i (by omega), List.drop_of_length_le (by omega)]
    cases b with
    | true => rw [if_pos rfl, if_pos (.inl rfl)]
    | false => rw [if_neg (by decide), if_pos (by omega), if_pos (by omega), if_pos (by omega), rdb_nat a0 i hi, if_neg (by simp)]
  | succ d ih =>
    intro k j b hj
    have h : j < L.length := by omega
    rw [show k + (d + 1) + 1 = (k + d + 1) + 1 by omega, winnowlaw14_PartsEven.l1, if_pos (by omega), wrap_succB j (by omega)]
    cases b with
    | true => rw [if_pos rfl, ih k (j + 1) true (by omega), if_pos (.inl rfl), if_pos (.inl rfl)]
    | false =>
      rw [if_neg (by decide), if_pos (by omega), if_pos (by omega), if_pos (by omega), rdb_nat L j h, rdb_nat a0 i hi, ba_beq, ih k (j + 1) _ (by omega), List.drop_eq_getElem_cons h]
      by_cases e : L[j] = a0[i]
      · rw [if_pos (.inl (decide_eq_true e)), if_pos (.inr (by rw [e]; exact List.mem_cons_self))]
      · by_cases e2 : a0[i] ∈ L.drop (j + 1)
        · rw [if_pos (.inr e2), if_pos (.inr (List.mem_cons_of_mem _ e2))]
        · rw [if_neg (by rw [decide_eq_false e]; simp [e2]), if_neg (by rintro (q | q); (cases q); rcases List.mem_cons.1 q with q | q; exact e q.symm; exact e2 q)]
theorem even_l0 (a0 : List ByteArray) (n : Int) (ha : a0.length ≤ 140737488351232) (d : Nat) : ∀ (k i : Nat) (L : List ByteArray), i + d = 40 → L.length ≤ i → (∀ b ∈ L, b.size ≤ 1024) → L.Nodup → BIG + 300 + 100 * d < k → winnowlaw14_PartsEven.l0 k a0 n L (i : Int) = some true := by
  induction d with
  | zero =>
    intro k i L hi hL hx hd hk
    obtain ⟨k, rfl⟩ : ∃ m, k = m + 1 := ⟨k - 1, by omega⟩
    rw [winnowlaw14_PartsEven.l0]
    have e : decide ((i : Int) < 40) = false := decide_eq_false (by omega)
    rw [e, ite_self]
    exact even_end a0 n L _ (by omega) hx hd k (by omega)
  | succ d ih =>
    intro k i L hi hL hx hd hk
    obtain ⟨k, rfl⟩ : ∃ m, k = m + L.length + 3 := ⟨k - (L.length + 3), by omega⟩
    rw [show k + L.length + 3 = (k + L.length + 2) + 1 by omega, winnowlaw14_PartsEven.l0]
    by_cases h : i < a0.length
    · have e : decide ((i : Int) < 40) = true := decide_eq_true (by omega)
      rw [if_pos (by omega), e, show k + L.length + 2 = (k + L.length + 1) + 1 by omega, winnowlaw14_PartsEven.j1, if_pos rfl, if_pos (by omega), if_pos (by omega), rdb_nat a0 i h]
      have := even_l1 a0 n L i h (by omega) (by omega) L.length k 0 (decide ((a0[i].size : Int) > 1024)) (by omega)
      rw [show ((0 : Nat) : Int) = 0 from rfl] at this
      rw [this, List.drop_zero]
      by_cases c : decide ((a0[i].size : Int) > 1024) = true ∨ a0[i] ∈ L
      · rw [if_pos c]
        exact ih k (i + 1) L (by omega) (by omega) hx hd (by omega)
      · rw [if_neg c]
        have c1 : ¬ (a0[i].size : Int) > 1024 := fun q => c (.inl (decide_eq_true q))
        have c2 : a0[i] ∉ L := fun q => c (.inr q)
        refine ih k (i + 1) _ (by omega) (by simp; omega) (fun b hb => ?_) ?_ (by omega)
        · rcases List.mem_append.1 hb with hb | hb
          · exact hx b hb
          · rw [List.mem_singleton.1 hb]; omega
        · rw [List.nodup_append]
          refine ⟨hd, by simp, fun a ha b hb e => ?_⟩
          rw [List.mem_singleton.1 hb] at e
          rw [e] at ha
          exact c2 ha
    · have hk2 : BIG + 200 < k + L.length + 2 := by (have hk' := hk; clear ih h ha hi hL hk hx hd; generalize BIG = B at hk' ⊢; omega)
      rw [if_neg (by omega)]
      exact even_end a0 n L _ (by omega) hx hd _ hk2
end Go.Proofs.Ytbjlfenappnccaa.P

end
