/- spoil: a book's two lists written over and added to; contract by hand. -/
import Derived.Test.YtponmfnegdlppaaP0
import Derived.Outline
namespace Go.Proofs.Ytponmfnegdlppaa.P
open Go.RowKit Go.Proofs.YtponmfnegdlppaaW.PrintWords Go.Proofs.YtponmfnegdlppaaW.PrintLast Go.Proofs.YtponmfnegdlppaaW.PrintMore
set_option linter.unusedVariables false
set_option linter.unusedSimpArgs false

/-- One element of an own row written. -/
theorem put33 {W : World} {base : Nat} {P : Nat → Prop} {v : Value} {l : List S33} (h : Kd.R k33 33 W base P v l) (i : Nat) (hi : i < l.length) (x : S33) :
    ∃ g c, v = .slice (some ⟨g, 0, none⟩) l.length c ∧ P g ∧ base ≤ g ∧
      (∃ a0 a1 a2 : Int, W.cell? ⟨g, i * 3, none⟩ = some (.int .i64 a0) ∧ W.cell? ⟨g, i * 3 + 1, none⟩ = some (.int .i64 a1) ∧ W.cell? ⟨g, i * 3 + 2, none⟩ = some (.int .i64 a2)) ∧
      (W.frozen? ⟨g, i * 3, none⟩ = false ∧ W.frozen? ⟨g, i * 3 + 1, none⟩ = false ∧ W.frozen? ⟨g, i * 3 + 2, none⟩ = false) ∧
      Kd.R k33 33 (((W.setCell ⟨g, i * 3, none⟩ (.int .i64 x.f0)).setCell ⟨g, i * 3 + 1, none⟩ (.int .i64 x.f1)).setCell ⟨g, i * 3 + 2, none⟩ (.int .i64 x.f2)) base P v (l.set i x) ∧
      W.grownBy (((W.setCell ⟨g, i * 3, none⟩ (.int .i64 x.f0)).setCell ⟨g, i * 3 + 1, none⟩ (.int .i64 x.f1)).setCell ⟨g, i * 3 + 2, none⟩ (.int .i64 x.f2)) (some g) := by
  obtain ⟨g, c, rfl, gb, gl, _⟩ := Kd.R_form h (by omega)
  obtain ⟨ce, hcl, hM, hcc, hfr⟩ := Kd.R_elem h z33 (i : Int) (by omega) (by omega)
  obtain rfl := k33_openM hM
  have hP := Kd.R_seg h (i : Int) (by omega) (by omega) (seg := [.int .i64 x.f0, .int .i64 x.f1, .int .i64 x.f2]) (j := 0) hcl hcc (show 3 ≤ 3 from by decide) (x' := x) (k33_mkM _ _ _ x) (fun _ hk => hk)
  rw [Int.toNat_natCast] at hcc hfr hP
  exact ⟨g, c, rfl, h.1 _ rfl, gb, ⟨_, _, _, hcc 0 _ rfl, hcc 1 _ rfl, hcc 2 _ rfl⟩, ⟨hfr 0, hfr 1, hfr 2⟩, hP.1, hP.2⟩

/-- where spoil stands -/
def SP (w0 w : World) (P0 P1 : Nat → Prop) (t : Int) (fl : Bool) (u0 u1 : Value) (n0 n1 : Nat) (W : World) : Prop :=
  W.heap[w.heap.size]? = some (.cells #[.int .i64 t, u0, u1, .bool fl] 24 (0, 0)) ∧
  (∃ l0, l0.length = n0 ∧ Kd.R k33 33 W w0.heap.size (fun k => P0 k ∧ k < w.heap.size) u0 l0) ∧
  (∃ l1, l1.length = n1 ∧ Kd.R k33 33 W w0.heap.size (fun k => P1 k ∧ k < w.heap.size) u1 l1) ∧
  Kept w W (fun k => P0 k ∨ P1 k) ∧ Below w0.heap.size w0 W

theorem SP.put0 {w0 w W : World} {P0 P1 : Nat → Prop} {t : Int} {fl : Bool} {u0 u1 : Value} {n0 n1 : Nat} (hd : ∀ k, P0 k → ¬ P1 k) (h : SP w0 w P0 P1 t fl u0 u1 n0 n1 W) (i : Nat) (hi : i < n0) (x : S33) :
    ∃ g c, u0 = .slice (some ⟨g, 0, none⟩) n0 c ∧
      (∃ a0 a1 a2 : Int, W.cell? ⟨g, i * 3, none⟩ = some (.int .i64 a0) ∧ W.cell? ⟨g, i * 3 + 1, none⟩ = some (.int .i64 a1) ∧ W.cell? ⟨g, i * 3 + 2, none⟩ = some (.int .i64 a2)) ∧
      (W.frozen? ⟨g, i * 3, none⟩ = false ∧ W.frozen? ⟨g, i * 3 + 1, none⟩ = false ∧ W.frozen? ⟨g, i * 3 + 2, none⟩ = false) ∧
      SP w0 w P0 P1 t fl u0 u1 n0 n1 (((W.setCell ⟨g, i * 3, none⟩ (.int .i64 x.f0)).setCell ⟨g, i * 3 + 1, none⟩ (.int .i64 x.f1)).setCell ⟨g, i * 3 + 2, none⟩ (.int .i64 x.f2)) := by
  obtain ⟨s0, ⟨l, rfl, hR⟩, ⟨l1, hl1, hR1⟩, s3, s4⟩ := h
  obtain ⟨g, c, e, hPg, hbg, hx, hf, hR2, hg⟩ := put33 hR i hi x
  have hlt := (Array.getElem?_eq_some_iff.1 s0).1
  refine ⟨g, c, e, hx, hf, (hg.block _ hlt (fun e => by injection e with e; have := hPg.2; omega)).trans s0, ⟨l.set i x, by simp, hR2⟩, ⟨l1, hl1, Kd.R_grown hR1 hg (fun k hk e => hd g hPg.1 (by injection e with e; subst e; exact hk.1))⟩, ?_, ?_⟩
  · exact Kept.of_grown hg s3 (fun k e => .inl (.inl (by injection e with e; subst e; exact hPg.1)))
  · exact ((s4.setCell hbg _).setCell hbg _).setCell hbg _
theorem SP.put1 {w0 w W : World} {P0 P1 : Nat → Prop} {t : Int} {fl : Bool} {u0 u1 : Value} {n0 n1 : Nat} (hd : ∀ k, P0 k → ¬ P1 k) (h : SP w0 w P0 P1 t fl u0 u1 n0 n1 W) (i : Nat) (hi : i < n1) (x : S33) :
    ∃ g c, u1 = .slice (some ⟨g, 0, none⟩) n1 c ∧
      (∃ a0 a1 a2 : Int, W.cell? ⟨g, i * 3, none⟩ = some (.int .i64 a0) ∧ W.cell? ⟨g, i * 3 + 1, none⟩ = some (.int .i64 a1) ∧ W.cell? ⟨g, i * 3 + 2, none⟩ = some (.int .i64 a2)) ∧
      (W.frozen? ⟨g, i * 3, none⟩ = false ∧ W.frozen? ⟨g, i * 3 + 1, none⟩ = false ∧ W.frozen? ⟨g, i * 3 + 2, none⟩ = false) ∧
      SP w0 w P0 P1 t fl u0 u1 n0 n1 (((W.setCell ⟨g, i * 3, none⟩ (.int .i64 x.f0)).setCell ⟨g, i * 3 + 1, none⟩ (.int .i64 x.f1)).setCell ⟨g, i * 3 + 2, none⟩ (.int .i64 x.f2)) := by
  obtain ⟨s0, ⟨l1, hl1, hR1⟩, ⟨l, rfl, hR⟩, s3, s4⟩ := h
  obtain ⟨g, c, e, hPg, hbg, hx, hf, hR2, hg⟩ := put33 hR i hi x
  have hlt := (Array.getElem?_eq_some_iff.1 s0).1
  refine ⟨g, c, e, hx, hf, (hg.block _ hlt (fun e => by injection e with e; have := hPg.2; omega)).trans s0, ⟨l1, hl1, Kd.R_grown hR1 hg (fun k hk e => hd k hk.1 (by injection e with e; subst e; exact hPg.1))⟩, ⟨l.set i x, by simp, hR2⟩, ?_, ?_⟩
  · exact Kept.of_grown hg s3 (fun k e => .inl (.inr (by injection e with e; subst e; exact hPg.1)))
  · exact ((s4.setCell hbg _).setCell hbg _).setCell hbg _
theorem SP.box {w0 w W : World} {P0 P1 : Nat → Prop} {t : Int} {fl : Bool} {u0 u1 : Value} {n0 n1 : Nat} (h : SP w0 w P0 P1 t fl u0 u1 n0 n1 W) :
    W.cell? ⟨w.heap.size, 1, none⟩ = some u0 ∧ W.cell? ⟨w.heap.size, 2, none⟩ = some u1 := by
  constructor <;> (rw [cell_of_row _ _ _ _ _ _ h.1]; rfl)
/-- two rows of the call's own, told apart, that grow -/
def SQ (w0 w : World) (S : Nat → Prop) (vm vr : Value) (m : Nat) (W : World) : Prop :=
  ∃ (Pm Pr : Nat → Prop) (lm lr : List S33), lm.length ≤ 100000 + m ∧ lr.length ≤ 100000 + m ∧ Kd.R k33 33 W w0.heap.size Pm vm lm ∧ Kd.R k33 33 W w0.heap.size Pr vr lr ∧ (∀ k, Pm k → ¬ Pr k) ∧
    (∀ k, Pm k → S k ∨ w.heap.size ≤ k) ∧ (∀ k, Pr k → S k ∨ w.heap.size ≤ k) ∧ Kept w W S ∧ Below w0.heap.size w0 W
theorem SP.SQ {w0 w W : World} {P0 P1 : Nat → Prop} {t : Int} {fl : Bool} {u0 u1 : Value} {n0 n1 : Nat} (hd : ∀ k, P0 k → ¬ P1 k) (h0 : n0 ≤ 100000) (h1 : n1 ≤ 100000) (h : SP w0 w P0 P1 t fl u0 u1 n0 n1 W) :
    SQ w0 w (fun k => P0 k ∨ P1 k) u0 u1 0 W := by
  obtain ⟨s0, ⟨l0, hl0, hR0⟩, ⟨l1, hl1, hR1⟩, s3, s4⟩ := h
  exact ⟨_, _, l0, l1, by omega, by omega, hR0, hR1, fun k h0 h1 => hd k h0.1 h1.1, fun k h => .inl (.inl h.1), fun k h => .inl (.inr h.1), s3, s4⟩
theorem SQ.swap {w0 w W : World} {S : Nat → Prop} {vm vr : Value} {m : Nat} (h : SQ w0 w S vm vr m W) : SQ w0 w S vr vm m W := by
  obtain ⟨Pm, Pr, lm, lr, h1, h2, h3, h4, h5, h6, h7, h8, h9⟩ := h
  exact ⟨Pr, Pm, lr, lm, h2, h1, h4, h3, fun k a b => h5 k b a, h7, h6, h8, h9⟩
/-- One is added to the first row. -/
theorem SQ.app {w0 w W w1 : World} {S : Nat → Prop} {vm vr v1 : Value} {m' : Nat} {Pm Pr : Nat → Prop} {lm lr : List S33} {p : S33} (hl : lm.length < 100000 + m') (hr : lr.length ≤ 100000 + m') (h3 : Kd.R k33 33 W w0.heap.size Pm vm lm) (h4 : Kd.R k33 33 W w0.heap.size Pr vr lr)
    (h5 : ∀ k, Pm k → ¬ Pr k) (h6 : ∀ k, Pm k → S k ∨ w.heap.size ≤ k) (h7 : ∀ k, Pr k → S k ∨ w.heap.size ≤ k) (h8 : Kept w W S)
    (ho : Kd.R k33 33 w1 w0.heap.size (fun k => Pm k ∨ W.heap.size ≤ k) v1 (lm ++ [p])) (hb : Below w0.heap.size w0 w1) (hg : W.grownBy w1 vm.ownBlock) : SQ w0 w S v1 vr m' w1 := by
  have hs := h8.1
  refine ⟨_, fun k => Pr k ∧ k < W.heap.size, lm ++ [p], lr, by simp; omega, hr, ho, ?_, ?_, ?_, fun k h => h7 k h.1, ?_, hb⟩
  · exact Kd.R_grown (Kd.R_mono (Kd.R_bound h4) (fun k hk => ⟨hk.1, hk.2.2.1⟩)) hg (fun k hk e => h5 k (h3.1 k e.symm) hk.1)
  · rintro k (h | h) ⟨a, b⟩
    · exact h5 k h a
    · omega
  · rintro k (h | h)
    · exact h6 k h
    · right; omega
  · exact Kept.of_grown hg h8 (fun k e => h6 k (h3.1 k e))

set_option maxHeartbeats 4000000 in
set_option maxRecDepth 100000 in
theorem spoil_any (P0 P1 : Nat → Prop) (t : Int) (fl : Bool) (u0 u1 : Value) (l0 l1 : List S33) (w0 w : World) (hB : Below w0.heap.size w0 w)
    (h0 : Kd.R k33 33 w w0.heap.size P0 u0 l0) (h1 : Kd.R k33 33 w w0.heap.size P1 u1 l1) (hd : ∀ k, P0 k → ¬ P1 k) (hl0 : l0.length ≤ 100000) (hl1 : l1.length ≤ 100000) :
    Calls Try.prog 7 #[.agg #[.int .i64 t, u0, u1, .bool fl]] w fun e w' => e = .returned (.tuple #[]) ∧ Below w0.heap.size w0 w' ∧ Kept w w' (fun k => P0 k ∨ P1 k) := by
  have hsz := hB.size
  obtain ⟨A0, c0, rfl, hc0, hC0⟩ := Kd.R_reads h0
  obtain ⟨A1, c1, rfl, hc1, hC1⟩ := Kd.R_reads h1
  have hSP : SP w0 w P0 P1 t fl (.slice A0 l0.length c0) (.slice A1 l1.length c1) l0.length l1.length (w.alloc (.cells #[.int .i64 t, .slice A0 l0.length c0, .slice A1 l1.length c1, .bool fl] 24)) := by
    refine ⟨heap_alloc_new w _, ⟨l0, rfl, ?_⟩, ⟨l1, rfl, ?_⟩, (Kept.refl w _).alloc _, hB.alloc hsz _⟩
    · exact Kd.R_alloc (Kd.R_mono (Kd.R_bound h0) (fun k hk => ⟨hk.1, hk.2.2.1⟩)) _
    · exact Kd.R_alloc (Kd.R_mono (Kd.R_bound h1) (fun k hk => ⟨hk.1, hk.2.2.1⟩)) _
  have HSP := Aside0.mk hSP
  have HL0 := Aside0.mk hl0
  have HL1 := Aside0.mk hl1
  have HD := Aside0.mk hd
  have HSZ := Aside0.mk hsz
  clear hSP hC0 hC1 hc0 hc1 h0 h1 hB hl0 hl1 hd hsz
  generalize hn0 : l0.length = n0 at *
  generalize hn1 : l1.length = n1 at *
  clear hn0 hn1
  have hb0 : (n0 : Int) ≤ 100000 := by have := HL0.out; omega
  have hb1 : (n1 : Int) ≤ 100000 := by have := HL1.out; omega
  have hu22 := Try.underlying22
  have hu33 := Try.underlying33
  have hu24 := Try.underlying24
  go_enter Try.func7, Try.ntmps7
  go_wp2_with fail
  generalize w.alloc (.cells #[.int .i64 t, .slice A0 n0 c0, .slice A1 n1 c1, .bool fl] 24) = W1 at HSP ⊢
  go_loopw [2] (fun v wr => ∃ i : Nat, i ≤ n0 ∧ v = .int .i64 i ∧ Aside0 (SP w0 w P0 P1 t fl (.slice A0 n0 c0) (.slice A1 n1 c1) n0 n1 wr)) (fun v _ => n0 - (intOf v).toNat)
  case atStart => exact ⟨0, by omega, rfl, HSP⟩
  case round =>
    clear HSP
    obtain ⟨i, hi, rfl, hS⟩ := hrel
    by_cases hlt : i < n0
    · have hd1 : decide ((i : Int) < (n0 : Int)) = true := by simp; omega
      have hd2 : decide (i < n0) = true := by simp; omega
      obtain ⟨hx1, _⟩ := hS.out.box
      obtain ⟨g, c, e, ⟨a0, a1, a2, hx30, hx31, hx32⟩, ⟨hf0, hf1, hf2⟩, hS2⟩ := hS.out.put0 HD.out i hlt ⟨78, 0, 0⟩
      injection e with e1 e2 e3
      subst e1 e3
      have HS2 := Aside0.mk hS2
      clear hS2 hS
      go_wp2_with fail
      go_roundw
      case rel => exact ⟨i + 1, by omega, by go_num, HS2⟩
      case measure => simp [intOf]; omega
    · obtain rfl : i = n0 := by omega
      obtain ⟨hx1, _⟩ := hS.out.box
      go_wp2_with fail
      clear hx1
      go_loopw [3] (fun v wr => ∃ i2 : Nat, i2 ≤ n1 ∧ v = .int .i64 i2 ∧ Aside0 (SP w0 w P0 P1 t fl (.slice A0 i c0) (.slice A1 n1 c1) i n1 wr)) (fun v _ => n1 - (intOf v).toNat)
      case atStart => exact ⟨0, by omega, rfl, hS⟩
      case round =>
        clear hS
        obtain ⟨i2, hi2, rfl, hS⟩ := hrel
        by_cases hlt2 : i2 < n1
        · have hd1 : decide ((i2 : Int) < (n1 : Int)) = true := by simp; omega
          have hd2 : decide (i2 < n1) = true := by simp; omega
          obtain ⟨_, hx1⟩ := hS.out.box
          obtain ⟨g, c, e, ⟨a0, a1, a2, hx30, hx31, hx32⟩, ⟨hf0, hf1, hf2⟩, hS2⟩ := hS.out.put1 HD.out i2 hlt2 ⟨79, 0, 0⟩
          injection e with e1 e2 e3
          subst e1 e3
          have HS2 := Aside0.mk hS2
          clear hS2 hS
          go_wp2_with fail
          go_roundw
          case rel => exact ⟨i2 + 1, by omega, by go_num, HS2⟩
          case measure => simp [intOf]; omega
        · obtain rfl : i2 = n1 := by omega
          obtain ⟨hx1, hx2⟩ := hS.out.box
          have HQ := Aside0.mk (hS.out.SQ HD.out HL0.out HL1.out)
          clear hS
          go_wp2_with fail
          clear hx1 hx2
          go_loopw [4, 5, 6] (fun vm vr v wr => ∃ m : Nat, m ≤ 64 ∧ v = .int .i64 m ∧ Aside0 (SQ w0 w (fun k => P0 k ∨ P1 k) vm vr (2 * m) wr)) (fun _ _ v _ => 64 - (intOf v).toNat)
          case atStart => exact ⟨0, by omega, rfl, HQ⟩
          case round =>
            clear HQ
            obtain ⟨m, hm, rfl, hQ⟩ := hrel
            by_cases hlt3 : m < 64
            · have hd1 : decide ((m : Int) < 64) = true := by simp; omega
              obtain ⟨Pm, Pr, lm, lr, q1, q2, q3, q4, q5, q6, q7, q8, q9⟩ := hQ.out
              have G1 := Aside0.mk q1
              have G3 := Aside0.mk (Kd.R_mono (ok' := fun k => Pm k ∨ wr.heap.size ≤ k) q3 (fun k h => .inl h))
              have G9 := Aside0.mk q9
              have GS := Aside0.mk (Nat.le_trans HSZ.out q8.1)
              have GA := Aside0.mk (fun (v1 : Value) (w1 : World) => SQ.app (w1 := w1) (v1 := v1) (m' := 2 * m + 1) (p := ⟨80, 0, 0⟩) (by omega) (by omega) q3 q4 q5 q6 q7 q8)
              clear q1 q2 q3 q4 q5 q6 q7 q8 q9 hQ
              go_wp2_with (first
                | ((with_reducible refine gate_builtin (b := .append) (xs := #[.tmp 39, .tmp 41]) rfl ?_); at_builtin; refine Kd.R_append k33 (w0 := w0) w0.heap.size rfl (.tmp 39) (.tmp 41) 22 33 (.agg #[.int .i64 0, .int .i64 0, .int .i64 0]) 24 rfl Try.underlying22 info33 rfl (by decide) (by omega) u4 lm ⟨80, 0, 0⟩ [.int .i64 80, .int .i64 0, .int .i64 0] (fun k => Pm k ∨ wr.heap.size ≤ k) (fun _ => False) rfl rfl (k33_mkM _ _ _ _) (fun _ hk => hk.elim) (fun k hk => .inr hk) G3.out G9.out GS.out (by have := G1.out; omega) ?_; intro v1 w1 ho hb hg hat; have HQ2 := Aside0.mk (GA.out v1 w1 ho hb hg).swap; clear ho hb hg hat GA G1 G3 G9 GS; obtain ⟨Pn, Ps, ln, ls, q1, q2, q3, q4, q5, q6, q7, q8, q9⟩ := HQ2.out; have G1 := Aside0.mk q1; have G3 := Aside0.mk (Kd.R_mono (ok' := fun k => Pn k ∨ w1.heap.size ≤ k) q3 (fun k h => .inl h)); have G9 := Aside0.mk q9; have GS := Aside0.mk (Nat.le_trans HSZ.out q8.1); have GB := Aside0.mk (fun (v1 : Value) (w2 : World) => SQ.app (w1 := w2) (v1 := v1) (m' := 2 * m + 1 + 1) (p := ⟨81, 0, 0⟩) (by omega) (by omega) q3 q4 q5 q6 q7 q8); clear q1 q2 q3 q4 q5 q6 q7 q8 q9 HQ2)
                | ((with_reducible refine gate_builtin (b := .append) (xs := #[.tmp 43, .tmp 45]) rfl ?_); at_builtin; refine Kd.R_append k33 (w0 := w0) w0.heap.size rfl (.tmp 43) (.tmp 45) 22 33 (.agg #[.int .i64 0, .int .i64 0, .int .i64 0]) 24 rfl Try.underlying22 info33 rfl (by decide) (by omega) u5 ln ⟨81, 0, 0⟩ [.int .i64 81, .int .i64 0, .int .i64 0] (fun k => Pn k ∨ w1.heap.size ≤ k) (fun _ => False) rfl rfl (k33_mkM _ _ _ _) (fun _ hk => hk.elim) (fun k hk => .inr hk) G3.out G9.out GS.out (by have := G1.out; omega) ?_; intro v2 w2 ho hb hg hat; have HQ3 := Aside0.mk (GB.out v2 w2 ho hb hg).swap; clear ho hb hg hat GB G1 G3 G9 GS))
              go_roundw
              case rel => exact ⟨m + 1, by omega, by go_num, by rw [Nat.mul_add]; exact HQ3⟩
              case measure => simp [intOf]; omega
            · obtain rfl : m = 64 := by omega
              obtain ⟨_, _, _, _, _, _, _, _, _, _, _, q8, q9⟩ := hQ.out
              have G8 := Aside0.mk q8
              have G9 := Aside0.mk q9
              clear q8 q9 hQ
              go_wp2_with fail
              go_end0
              exact ⟨rfl, G9.out, G8.out⟩
end Go.Proofs.Ytponmfnegdlppaa.P
