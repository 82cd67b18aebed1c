/- apart: two answers of one call, told apart; contract by hand. -/
import Derived.Test.YtponmfnegdlppaaHSpoil
import Derived.Test.YtponmfnegdlppaaPf8
namespace Go.Proofs.Ytponmfnegdlppaa.P
open Go.RowKit Go.Proofs.YtponmfnegdlppaaW.PrintWords Go.Proofs.YtponmfnegdlppaaW.PrintLast Go.Proofs.YtponmfnegdlppaaW.PrintMore
set_option linter.unusedVariables false
set_option linter.unusedSimpArgs false

/-- where apart stands -/
def SA (w0 w : World) (Q1 Z1 : Nat → Prop) (t : Int) (fl : Bool) (v1 z0 z1 : Value) (l1 : List S33) (vm : Value) (m : Nat) (W : World) : Prop :=
  W.heap[w.heap.size + 1]? = some (.cells #[.int .i64 t, vm, v1, .bool fl] 24 (0, 0)) ∧ W.heap[w.heap.size + 1 + 1]? = some (.cells #[.int .i64 t, z0, z1, .bool fl] 24 (0, 0)) ∧
  Kd.R k33 33 W w0.heap.size (fun k => Q1 k ∧ k < w.heap.size) v1 l1 ∧ Kd.R k33 33 W w0.heap.size (fun k => Z1 k ∧ k < w.heap.size) z1 l1 ∧ Below w0.heap.size w0 W ∧ w0.heap.size ≤ w.heap.size ∧
  ∃ (Pm : Nat → Prop) (l : List S33), l.length = m ∧ Kd.R k33 33 W w0.heap.size Pm vm l ∧ ∀ k, Pm k → ¬ (Q1 k ∧ k < w.heap.size) ∧ ¬ (Z1 k ∧ k < w.heap.size) ∧ k ≠ w.heap.size + 1 ∧ k ≠ w.heap.size + 1 + 1
section
variable {w0 w W W1 : World} {Q1 Z1 : Nat → Prop} {t : Int} {fl : Bool} {v1 z0 z1 vm vm' : Value} {l1 : List S33} {m : Nat}
theorem SA.put (h : SA w0 w Q1 Z1 t fl v1 z0 z1 l1 vm m W) (i : Nat) (hi : i < m) (x : S33) :
    ∃ g c, vm = .slice (some ⟨g, 0, none⟩) m c ∧
      (∃ a0 a1 a2 : Int, W.cell? ⟨g, i * 3, none⟩ = some (.int .i64 a0) ∧ W.cell? ⟨g, i * 3 + 1, none⟩ = some (.int .i64 a1) ∧ W.cell? ⟨g, i * 3 + 2, none⟩ = some (.int .i64 a2)) ∧
      (W.frozen? ⟨g, i * 3, none⟩ = false ∧ W.frozen? ⟨g, i * 3 + 1, none⟩ = false ∧ W.frozen? ⟨g, i * 3 + 2, none⟩ = false) ∧
      SA w0 w Q1 Z1 t fl v1 z0 z1 l1 vm m (((W.setCell ⟨g, i * 3, none⟩ (.int .i64 x.f0)).setCell ⟨g, i * 3 + 1, none⟩ (.int .i64 x.f1)).setCell ⟨g, i * 3 + 2, none⟩ (.int .i64 x.f2)) := by
  obtain ⟨s0, s1, s2, s3, s4, s5, Pm, l, rfl, hR, hP⟩ := h
  obtain ⟨g, c, e, hPg, hbg, hx, hf, hR2, hg⟩ := put33 hR i hi x
  obtain ⟨p1, p2, p3, p4⟩ := hP g hPg
  refine ⟨g, c, e, hx, hf, (hg.block _ (Array.getElem?_eq_some_iff.1 s0).1 (fun e => p3 (by injection e with e; exact e.symm))).trans s0, (hg.block _ (Array.getElem?_eq_some_iff.1 s1).1 (fun e => p4 (by injection e with e; exact e.symm))).trans s1, ?_, ?_, ?_, s5, Pm, _, by simp, hR2, hP⟩
  · exact Kd.R_grown s2 hg (fun k hk e => p1 (by injection e with e; subst e; exact hk))
  · exact Kd.R_grown s3 hg (fun k hk e => p2 (by injection e with e; subst e; exact hk))
  · exact ((s4.setCell hbg _).setCell hbg _).setCell hbg _
theorem SA.box (h : SA w0 w Q1 Z1 t fl v1 z0 z1 l1 vm m W) :
    W.cell? ⟨w.heap.size + 1, 1, none⟩ = some vm ∧ W.cell? ⟨w.heap.size + 1, 2, none⟩ = some v1 ∧ W.cell? ⟨w.heap.size + 1 + 1, 2, none⟩ = some z1 := by
  refine ⟨?_, ?_, ?_⟩
  · rw [cell_of_row _ _ _ _ _ _ h.1]; rfl
  · rw [cell_of_row _ _ _ _ _ _ h.1]; rfl
  · rw [cell_of_row _ _ _ _ _ _ h.2.1]; rfl
/-- The row grown, and put back into its book. -/
theorem SA.app {Pm : Nat → Prop} {l : List S33} {p : S33} (s0 : W.heap[w.heap.size + 1]? = some (.cells #[.int .i64 t, vm, v1, .bool fl] 24 (0, 0))) (s1 : W.heap[w.heap.size + 1 + 1]? = some (.cells #[.int .i64 t, z0, z1, .bool fl] 24 (0, 0)))
    (s2 : Kd.R k33 33 W w0.heap.size (fun k => Q1 k ∧ k < w.heap.size) v1 l1) (s3 : Kd.R k33 33 W w0.heap.size (fun k => Z1 k ∧ k < w.heap.size) z1 l1) (s5 : w0.heap.size ≤ w.heap.size) (hl : l.length = m)
    (hR : Kd.R k33 33 W w0.heap.size Pm vm l) (hP : ∀ k, Pm k → ¬ (Q1 k ∧ k < w.heap.size) ∧ ¬ (Z1 k ∧ k < w.heap.size) ∧ k ≠ w.heap.size + 1 ∧ k ≠ w.heap.size + 1 + 1)
    (ho : Kd.R k33 33 W1 w0.heap.size (fun k => Pm k ∨ W.heap.size ≤ k) vm' (l ++ [p])) (hb : Below w0.heap.size w0 W1) (hg : W.grownBy W1 vm.ownBlock) :
    (∃ u, W1.cell? ⟨w.heap.size + 1, 1, none⟩ = some u) ∧ W1.frozen? ⟨w.heap.size + 1, 1, none⟩ = false ∧
    SA w0 w Q1 Z1 t fl v1 z0 z1 l1 vm' (m + 1) (W1.setCell ⟨w.heap.size + 1, 1, none⟩ vm') := by
  have l0 := (Array.getElem?_eq_some_iff.1 s0).1
  have l1' := (Array.getElem?_eq_some_iff.1 s1).1
  have e0 := (hg.block _ l0 (fun e => (hP _ (hR.1 _ e.symm)).2.2.1 rfl)).trans s0
  have e1 := (hg.block _ l1' (fun e => (hP _ (hR.1 _ e.symm)).2.2.2 rfl)).trans s1
  have r2 := Kd.R_grown s2 hg (fun k hk e => (hP _ (hR.1 _ e.symm)).1 hk)
  have r3 := Kd.R_grown s3 hg (fun k hk e => (hP _ (hR.1 _ e.symm)).2.1 hk)
  have hn := heap_setCell_same W1 (w.heap.size + 1) 1 _ _ vm' e0
  refine ⟨⟨vm, by rw [cell_of_row _ _ _ _ _ _ e0]; rfl⟩, frozen_of_row _ _ _ _ _ e0, hn, (heap_setCell_other W1 _ (w.heap.size + 1 + 1) _ (by simp)).trans e1, ?_, ?_, hb.setCell (by simp; omega) _, s5, fun k => Pm k ∨ W.heap.size ≤ k, l ++ [p], by simp [hl], ?_, ?_⟩
  · exact Kd.R_far r2 (fun k hk => by have := hk.2; simp; omega) _
  · exact Kd.R_far r3 (fun k hk => by have := hk.2; simp; omega) _
  · refine Kd.R_far ho (fun k hk => ?_) _
    rcases hk with hk | hk
    · exact (hP k hk).2.2.1
    · simp; omega
  · rintro k (hk | hk)
    · exact hP k hk
    · refine ⟨fun h => ?_, fun h => ?_, ?_, ?_⟩ <;> omega
end
theorem rd33_nat (l : List S33) (i : Nat) (h : i < l.length) : rd_T33 l (i : Int) = l[i] := by
  unfold rd_T33
  rw [Int.toNat_natCast, List.getD_eq_getElem?_getD, List.getElem?_eq_getElem h]
  rfl
theorem same33_loop (l : List S33) (hl : l.length ≤ 100000) (d : Nat) : ∀ (k i : Nat), i + d = l.length → d < k → winnowlaw19_sameStates.l0 k l l (i : Int) = some true := by
  induction d with
  | zero =>
    intro k i hi hk
    obtain ⟨k, rfl⟩ : ∃ m, k = m + 1 := ⟨k - 1, by omega⟩
    rw [winnowlaw19_sameStates.l0, if_neg (by omega)]
  | succ d ih =>
    intro k i hi hk
    obtain ⟨k, rfl⟩ : ∃ m, k = m + 1 := ⟨k - 1, by omega⟩
    have hw : wrap64 ((i : Int) + 1) = ((i + 1 : Nat) : Int) := by unfold wrap64; omega
    rw [winnowlaw19_sameStates.l0, if_pos (by omega), if_pos (by omega), if_pos (by omega), if_neg (by simp), hw, ih k (i + 1) (by omega) (by omega)]
theorem same33 (l : List S33) (hl : l.length ≤ 100000) (k : Nat) (hk : 100000 < k) : winnowlaw19_sameStates.f k l l = some true := by
  unfold winnowlaw19_sameStates.f
  rw [if_pos rfl]
  exact same33_loop l hl l.length k 0 (by omega) (by omega)
theorem same_book (t : Int) (fl : Bool) (l0 l1 : List S33) (h0 : l0.length ≤ 100000) (h1 : l1.length ≤ 100000) (k : Nat) (hk : 100000 < k) : winnowlaw19_same.f k t l0 l1 fl t l0 l1 fl = some true := by
  unfold winnowlaw19_same.f
  rw [if_pos rfl, if_pos (by simp), same33 l0 h0 k hk, Option.bind_some, if_pos rfl, same33 l1 h1 k hk, Option.bind_some]

set_option maxHeartbeats 4000000 in
set_option maxRecDepth 100000 in
theorem apart_any (P0 P1 Q0 Q1 Z0 Z1 : Nat → Prop) (t : Int) (fl : Bool) (u0 u1 v0 v1 z0 z1 : Value) (l0 l1 : List S33) (w0 w : World) (hB : Below w0.heap.size w0 w)
    (hu0 : Kd.R k33 33 w w0.heap.size P0 u0 l0) (hu1 : Kd.R k33 33 w w0.heap.size P1 u1 l1) (hv0 : Kd.R k33 33 w w0.heap.size Q0 v0 l0) (hv1 : Kd.R k33 33 w w0.heap.size Q1 v1 l1)
    (hz0 : Kd.R k33 33 w w0.heap.size Z0 z0 l0) (hz1 : Kd.R k33 33 w w0.heap.size Z1 z1 l1) (hd : ∀ k, P0 k → ¬ P1 k) (hdq : ∀ k, Q0 k ∨ Q1 k ∨ Z0 k ∨ Z1 k → ¬ (P0 k ∨ P1 k)) (hdv : ∀ k, Q0 k → ¬ Q1 k ∧ ¬ Z1 k)
    (hl0 : l0.length ≤ 100000) (hl1 : l1.length ≤ 100000) :
    Calls Try.prog 6 #[.agg #[.int .i64 t, u0, u1, .bool fl], .agg #[.int .i64 t, v0, v1, .bool fl], .agg #[.int .i64 t, z0, z1, .bool fl]] w fun e w' => e = .returned (.bool true) ∧ Below w0.heap.size w0 w' := by
  obtain ⟨k, hk⟩ : ∃ k, 100000 < k := ⟨_, Nat.lt_succ_self _⟩
  have HS := Aside0.mk (same_book t fl l0 l1 hl0 hl1 k hk)
  have HS1 := Aside0.mk (same33 l1 hl1 k hk)
  have b : ∀ {P : Nat → Prop} {v : Value} {l : List S33}, Kd.R k33 33 w w0.heap.size P v l → Kd.R k33 33 w w0.heap.size (fun k => P k ∧ k < w.heap.size) v l := fun h => Kd.R_mono (Kd.R_bound h) (fun k hk => ⟨hk.1, hk.2.2.1⟩)
  have HU0 := Aside0.mk (b hu0)
  have HU1 := Aside0.mk (b hu1)
  have HV0 := Aside0.mk (b hv0)
  have HV1 := Aside0.mk (b hv1)
  have HZ0 := Aside0.mk (b hz0)
  have HZ1 := Aside0.mk (b hz1)
  have HD := Aside0.mk hd
  have HDQ := Aside0.mk hdq
  have HDV := Aside0.mk hdv
  have HB := Aside0.mk hB
  have HSZ := Aside0.mk hB.size
  have HL0 := Aside0.mk hl0
  have HL1 := Aside0.mk hl1
  clear hB hu0 hu1 hv0 hv1 hz0 hz1 hd hdq hdv hl0 hl1 hk b
  have hu22 := Try.underlying22
  have hu33 := Try.underlying33
  have hu24 := Try.underlying24
  go_enter Try.func6, Try.ntmps6
  go_wp2_with fail
  have r1 : (((w.alloc (.cells #[.int .i64 t, u0, u1, .bool fl] 24)).alloc (.cells #[.int .i64 t, v0, v1, .bool fl] 24)).alloc (.cells #[.int .i64 t, z0, z1, .bool fl] 24)).heap[w.heap.size + 1]? = some (.cells #[.int .i64 t, v0, v1, .bool fl] 24 (0, 0)) :=
    (Below.heap_alloc _ _ _ (by simp)).trans (heap_alloc2_new w _ _)
  have r2 : (((w.alloc (.cells #[.int .i64 t, u0, u1, .bool fl] 24)).alloc (.cells #[.int .i64 t, v0, v1, .bool fl] 24)).alloc (.cells #[.int .i64 t, z0, z1, .bool fl] 24)).heap[w.heap.size + 1 + 1]? = some (.cells #[.int .i64 t, z0, z1, .bool fl] 24 (0, 0)) := by
    have h := heap_alloc_new ((w.alloc (.cells #[.int .i64 t, u0, u1, .bool fl] 24)).alloc (.cells #[.int .i64 t, v0, v1, .bool fl] 24)) (.cells #[.int .i64 t, z0, z1, .bool fl] 24)
    have hs : ((w.alloc (.cells #[.int .i64 t, u0, u1, .bool fl] 24)).alloc (.cells #[.int .i64 t, v0, v1, .bool fl] 24)).heap.size = w.heap.size + 1 + 1 := by simp
    rw [hs] at h
    exact h
  have b3 : Below w.heap.size w (((w.alloc (.cells #[.int .i64 t, u0, u1, .bool fl] 24)).alloc (.cells #[.int .i64 t, v0, v1, .bool fl] 24)).alloc (.cells #[.int .i64 t, z0, z1, .bool fl] 24)) :=
    (((Below.refl _ _).alloc (Nat.le_refl _) _).alloc (by simp) _).alloc (by simp; omega) _
  generalize ((w.alloc (.cells #[.int .i64 t, u0, u1, .bool fl] 24)).alloc (.cells #[.int .i64 t, v0, v1, .bool fl] 24)).alloc (.cells #[.int .i64 t, z0, z1, .bool fl] 24) = W3 at r1 r2 b3 ⊢
  refine (spoil_any (fun k => P0 k ∧ k < w.heap.size) (fun k => P1 k ∧ k < w.heap.size) t fl u0 u1 l0 l1 w0 W3 (below_step HB.out b3) (Kd.R_below HU0.out b3) (Kd.R_below HU1.out b3) (fun k a b => HD.out k a.1 b.1) HL0.out HL1.out).mono ?_
  rintro e w4 ⟨rfl, hB4, hK4⟩
  have HB4 := Aside0.mk hB4
  have r1' := (hK4.2 _ (Array.getElem?_eq_some_iff.1 r1).1 (by rintro (h | h) <;> (have := h.2; omega))).trans r1
  have r2' := (hK4.2 _ (Array.getElem?_eq_some_iff.1 r2).1 (by rintro (h | h) <;> (have := h.2; omega))).trans r2
  have hV0 := Kd.R_kept (Kd.R_below HV0.out b3) hK4 (fun k h s => HDQ.out k (.inl h.1) (s.imp And.left And.left))
  have hV1 := Kd.R_kept (Kd.R_below HV1.out b3) hK4 (fun k h s => HDQ.out k (.inr (.inl h.1)) (s.imp And.left And.left))
  have hZ0 := Kd.R_kept (Kd.R_below HZ0.out b3) hK4 (fun k h s => HDQ.out k (.inr (.inr (.inl h.1))) (s.imp And.left And.left))
  have hZ1 := Kd.R_kept (Kd.R_below HZ1.out b3) hK4 (fun k h s => HDQ.out k (.inr (.inr (.inr h.1))) (s.imp And.left And.left))
  clear hB4 hK4 r1 r2 b3 HU0 HU1 HV0 HV1 HZ0 HZ1
  obtain ⟨Av0, cv0, rfl, hcv0, hCv0⟩ := Kd.R_reads hV0
  obtain ⟨Av1, cv1, rfl, hcv1, hCv1⟩ := Kd.R_reads hV1
  obtain ⟨Az0, cz0, rfl, hcz0, hCz0⟩ := Kd.R_reads hZ0
  obtain ⟨Az1, cz1, rfl, hcz1, hCz1⟩ := Kd.R_reads hZ1
  have x10 : w4.cell? ⟨w.heap.size + 1, 0, none⟩ = some (.int .i64 t) := by rw [cell_of_row _ _ _ _ _ _ r1']; rfl
  have x11 : w4.cell? ⟨w.heap.size + 1, 1, none⟩ = some (.slice Av0 l0.length cv0) := by rw [cell_of_row _ _ _ _ _ _ r1']; rfl
  have x12 : w4.cell? ⟨w.heap.size + 1, 2, none⟩ = some (.slice Av1 l1.length cv1) := by rw [cell_of_row _ _ _ _ _ _ r1']; rfl
  have x13 : w4.cell? ⟨w.heap.size + 1, 3, none⟩ = some (.bool fl) := by rw [cell_of_row _ _ _ _ _ _ r1']; rfl
  have x20 : w4.cell? ⟨w.heap.size + 1 + 1, 0, none⟩ = some (.int .i64 t) := by rw [cell_of_row _ _ _ _ _ _ r2']; rfl
  have x21 : w4.cell? ⟨w.heap.size + 1 + 1, 1, none⟩ = some (.slice Az0 l0.length cz0) := by rw [cell_of_row _ _ _ _ _ _ r2']; rfl
  have x22 : w4.cell? ⟨w.heap.size + 1 + 1, 2, none⟩ = some (.slice Az1 l1.length cz1) := by rw [cell_of_row _ _ _ _ _ _ r2']; rfl
  have x23 : w4.cell? ⟨w.heap.size + 1 + 1, 3, none⟩ = some (.bool fl) := by rw [cell_of_row _ _ _ _ _ _ r2']; rfl
  have R1 := Aside0.mk r1'
  have R2 := Aside0.mk r2'
  have HV0 := Aside0.mk hV0
  have HV1 := Aside0.mk hV1
  have HZ1 := Aside0.mk hZ1
  have GC := Aside0.mk (winnowlaw19_same.calls k t Av0 cv0 l0 Av1 cv1 l1 fl t Az0 cz0 l0 Az1 cz1 l1 fl true w4 hCv0 hcv0 hCv1 hcv1 hCz0 hcz0 hCz1 hcz1 HS.out)
  have HC := Aside0.mk hcv1
  have HCZ := Aside0.mk hcz1
  clear r1' r2' hV0 hV1 hZ0 hZ1 hCv0 hcv0 hCv1 hcv1 hCz0 hcz0 hCz1 hcz1
  go_wp2_with fail
  refine GC.out.mono ?_
  rintro e w5 ⟨rfl, hB5⟩
  clear GC x10 x11 x12 x13 x20 x21 x22 x23
  have HA : Aside0 (SA w0 w Q1 Z1 t fl (.slice Av1 l1.length cv1) (.slice Az0 l0.length cz0) (.slice Az1 l1.length cz1) l1 (.slice Av0 l0.length cv0) l0.length w5) :=
    ⟨(hB5.block _ (Array.getElem?_eq_some_iff.1 R1.out).1).trans R1.out, (hB5.block _ (Array.getElem?_eq_some_iff.1 R2.out).1).trans R2.out, Kd.R_below HV1.out hB5, Kd.R_below HZ1.out hB5, below_step HB4.out hB5, HSZ.out,
      _, l0, rfl, Kd.R_below HV0.out hB5, fun k h => ⟨fun q => (HDV.out k h.1).1 q.1, fun q => (HDV.out k h.1).2 q.1, by have := h.2; omega, by have := h.2; omega⟩⟩
  clear hB5 R1 R2 HV0 HV1 HZ1 HB4
  generalize hn0 : l0.length = n0 at *
  have hb0 : (n0 : Int) ≤ 100000 := by have := HL0.out; omega
  clear hn0
  go_wp2_with fail
  go_loopw [7] (fun v wr => ∃ i : Nat, i ≤ n0 ∧ v = .int .i64 i ∧ Aside0 (SA w0 w Q1 Z1 t fl (.slice Av1 l1.length cv1) (.slice Az0 n0 cz0) (.slice Az1 l1.length cz1) l1 (.slice Av0 n0 cv0) n0 wr)) (fun v _ => n0 - (intOf v).toNat)
  case atStart => exact ⟨0, by omega, rfl, HA⟩
  case round =>
    clear HA
    obtain ⟨i, hi, rfl, hS⟩ := hrel
    obtain ⟨hx1, _, _⟩ := hS.out.box
    by_cases hlt : i < n0
    · have hd1 : decide ((i : Int) < (n0 : Int)) = true := by simp; omega
      have hd2 : decide (i < n0) = true := by simp; omega
      obtain ⟨g, c, e, ⟨a0, a1, a2, hx30, hx31, hx32⟩, ⟨hf0, hf1, hf2⟩, hS2⟩ := hS.out.put i hlt ⟨82, 0, 0⟩
      injection e with e1 e2 e3
      subst e1 e3
      have HS2 := Aside0.mk hS2
      clear hS2 hS
      go_wp2_with fail
      go_roundw
      case rel => exact ⟨i + 1, by omega, by go_num, HS2⟩
      case measure => simp [intOf]; omega
    · obtain rfl : i = n0 := by omega
      go_wp2_with fail
      clear hx1
      go_loopw [8] (fun v wr => ∃ m : Nat, ∃ vm : Value, m ≤ 64 ∧ v = .int .i64 m ∧ Aside0 (SA w0 w Q1 Z1 t fl (.slice Av1 l1.length cv1) (.slice Az0 i cz0) (.slice Az1 l1.length cz1) l1 vm (i + m) wr)) (fun v _ => 64 - (intOf v).toNat)
      case atStart => exact ⟨0, _, by omega, rfl, hS⟩
      case round =>
        clear hS
        obtain ⟨m, vm, hm, rfl, hQ⟩ := hrel
        obtain ⟨hx1, hx2, hx3⟩ := hQ.out.box
        by_cases hlt3 : m < 64
        · have hd1 : decide ((m : Int) < 64) = true := by simp; omega
          clear hx2 hx3
          obtain ⟨s0, s1, s2, s3, s4, s5, Pm, l, hl, hR, hP⟩ := hQ.out
          have G1 := Aside0.mk (show (l.length + 1) * 24 ≤ 140737488355328 by omega)
          have G3 := Aside0.mk (Kd.R_mono (ok' := fun k => Pm k ∨ wr.heap.size ≤ k) hR (fun k h => .inl h))
          have G9 := Aside0.mk s4
          have GS := Aside0.mk s4.size
          have GA := Aside0.mk (fun (v1 : Value) (w1 : World) => SA.app (W1 := w1) (vm' := v1) (p := ⟨83, 0, 0⟩) s0 s1 s2 s3 s5 hl hR hP)
          clear s0 s1 s2 s3 s4 s5 hl hR hP hQ
          go_wp2_with (first
            | ((with_reducible refine gate_builtin (b := .append) (xs := #[.tmp 32, .tmp 34]) rfl ?_); at_builtin; refine Kd.R_append k33 (w0 := w0) w0.heap.size rfl (.tmp 32) (.tmp 34) 22 33 (.agg #[.int .i64 0, .int .i64 0, .int .i64 0]) 24 rfl Try.underlying22 info33 rfl (by decide) (by omega) vm l ⟨83, 0, 0⟩ [.int .i64 83, .int .i64 0, .int .i64 0] (fun k => Pm k ∨ wr.heap.size ≤ k) (fun _ => False) rfl rfl (k33_mkM _ _ _ _) (fun _ hk => hk.elim) (fun k hk => .inr hk) G3.out G9.out GS.out (by have := G1.out; omega) ?_; intro v1 w1 ho hb hg hat; obtain ⟨Ax, cx, rfl⟩ := Kd.R_slice ho; obtain ⟨⟨uu, hxx⟩, hff, hQ1⟩ := GA.out _ w1 ho hb hg; rw [List.length_append, List.length_singleton] at hQ1; have HQ1 := Aside0.mk hQ1; clear ho hb hg hat GA G1 G3 G9 GS hQ1))
          go_roundw
          case rel => exact ⟨m + 1, _, by omega, by go_num, HQ1⟩
          case measure => simp [intOf]; omega
        · obtain rfl : m = 64 := by omega
          obtain ⟨s0, s1, s2, s3, s4, s5, _⟩ := hQ.out
          have GC := Aside0.mk (winnowlaw19_sameStates.calls k Av1 cv1 l1 Az1 cz1 l1 true wr (Kd.R_reads' s2).2.2 HC.out (Kd.R_reads' s3).2.2 HCZ.out HS1.out)
          have G4 := Aside0.mk s4
          clear s0 s1 s2 s3 s4 s5 hQ hx1
          go_wp2_with fail
          refine GC.out.mono ?_
          rintro e w6 ⟨rfl, hD⟩
          have G6 := Aside0.mk (below_step G4.out hD.below)
          clear hD
          go_wp2_with fail
          go_ret
          exact ⟨rfl, G6.out⟩
end Go.Proofs.Ytponmfnegdlppaa.P
