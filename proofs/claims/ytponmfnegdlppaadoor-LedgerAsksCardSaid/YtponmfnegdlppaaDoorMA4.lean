/- Several texts laid together (wip/tools/merge2.py): HAsks. -/
import Derived.Test.YtponmfnegdlppaaDoorMA1
import Derived.Test.YtponmfnegdlppaaDoorMA3
import Derived.Outline
import Derived.Deep.DeepCutAuto
section
/- The law on asks: its walk (printed by HAsks.gen.py). -/
namespace Go.Proofs.YtponmfnegdlppaaDoor.P
open Go.RowKit Go.Proofs.YtponmfnegdlppaaDoorW.PrintWords Go.Proofs.YtponmfnegdlppaaDoorW.PrintLast Go.Proofs.YtponmfnegdlppaaDoorW.PrintMore
set_option linter.unusedVariables false
set_option linter.unusedSimpArgs false

set_option maxHeartbeats 64000000 in
set_option maxRecDepth 100000 in
theorem LedgerAsks_walk (t : Int) (A0 : Option Addr) (c0 : Nat) (l0 : List S38) (A1 : Option Addr) (c1 : Nat) (l1 : List S38) (fl : Bool) (w : World) (hC0 : Kd.C k38 w A0 l0.length l0) (hc0 : l0.length ≤ c0) (hC1 : Kd.C k38 w A1 l1.length l1) (hc1 : l1.length ≤ c1) (hl0 : l0.length ≤ 6000000000000) (hl1 : l1.length ≤ 6000000000000) (hT : Tab w) (hw1 : ∀ s ∈ l1, -9223372036854775808 ≤ s.f1 ∧ s.f1 ≤ 9223372036854775807) :
    Calls Tryd.prog 3 #[.agg #[.int .i64 t, .slice A0 l0.length c0, .slice A1 l1.length c1, .bool fl]] w fun e w' => e = .returned (.bool true) ∧ Below w.heap.size w w' := by
  have HC0 := Aside0.mk hC0
  have HC1 := Aside0.mk hC1
  have Hc0 := Aside0.mk hc0
  have Hc1 := Aside0.mk hc1
  have HL0 := Aside0.mk hl0
  have HL1 := Aside0.mk hl1
  have HT := Aside0.mk hT
  have HTL0 := Aside0.mk (turn_eq l0 hl0).2
  have HTL1 := Aside0.mk (turn_eq l1 hl1).2
  clear hC0 hC1 hc0 hc1 hl0 hl1 hT
  have hu22 := Tryd.underlying22
  have hu24 := Tryd.underlying24
  have hu29 := Tryd.underlying29
  have HW1 := Aside0.mk hw1
  clear hw1
  obtain ⟨RL, hRL⟩ : ∃ r, readyP t l0 l1 fl = r := ⟨_, rfl⟩
  obtain ⟨ck, hck⟩ : ∃ r, checkP t l0 l1 fl = r := ⟨_, rfl⟩
  obtain ⟨ov, hov⟩ : ∃ r, overP t l0 l1 fl = r := ⟨_, rfl⟩
  obtain ⟨⟨na, nb⟩, hbn⟩ : ∃ r, begunP t l0 l1 fl = r := ⟨_, rfl⟩
  have HRL := Aside0.mk hRL
  have HCK := Aside0.mk hck
  have HOV := Aside0.mk hov
  have HBN := Aside0.mk hbn
  have HRN := Aside0.mk (show RL.length ≤ 70000 by rw [← hRL]; exact readyP_len t l0 l1 fl)
  clear hRL hck hov hbn
  have hu26 := Tryd.underlying26
  have HLT0 := Aside0.mk (show (turn l0).length ≤ 6000000000000 by rw [HTL0.out]; exact HL0.out)
  have HLT1 := Aside0.mk (show (turn l1).length ≤ 6000000000000 by rw [HTL1.out]; exact HL1.out)
  have hE0 := (Env.start w).push #[.int .i64 t, .slice A0 l0.length c0, .slice A1 l1.length c1, .bool fl] 24
  obtain ⟨g1, hg0⟩ : ∃ g, g = w.heap.size := ⟨_, rfl⟩
  rw [← hg0] at hE0
  obtain ⟨W0, hW0, hE⟩ : ∃ W0, w.alloc (.cells #[.int .i64 t, .slice A0 l0.length c0, .slice A1 l1.length c1, .bool fl] 24) = W0 ∧ Env w _ _ W0 := ⟨_, rfl, hE0⟩
  have HG0 := Aside0.mk hg0
  have HW0 := Aside0.mk hW0
  have HE := Aside0.mk hE
  clear hE hE0 hW0 hg0
  go_enter Tryd.func3, Tryd.ntmps3
  go_upto_region 1 with fail
  rw [← HG0.out, HW0.out]
  clear HW0 HG0
  have xg1_0 : W0.cell? ⟨g1, 0, none⟩ = some (.int .i64 t) := HE.out.at_ 0 0 rfl rfl
  have xg1_1 : W0.cell? ⟨g1, 1, none⟩ = some (.slice A0 l0.length c0) := HE.out.at_ 0 1 rfl rfl
  have xg1_2 : W0.cell? ⟨g1, 2, none⟩ = some (.slice A1 l1.length c1) := HE.out.at_ 0 2 rfl rfl
  have xg1_3 : W0.cell? ⟨g1, 3, none⟩ = some (.bool fl) := HE.out.at_ 0 3 rfl rfl
  go_wp2_with fail
  refine (given_any t fl A0 c0 l0 A1 c1 l1 _ (HE.out.came HC0.out) Hc0.out (HE.out.came HC1.out) Hc1.out HL0.out HL1.out).mono ?_
  clear xg1_0 xg1_1 xg1_2 xg1_3
  rintro e w1 ⟨X0, x0, X1, x1, rfl, hx0, hx1, s0, s1, hB⟩
  have hE := HE.out.rows2 hB rfl s0 s1 1 2 (show ([1, 2] : List Nat).Nodup from by decide) (by decide) (by decide)
  have Hx0 := Aside0.mk hx0
  have Hx1 := Aside0.mk hx1
  clear hB s0 s1 HE hx0 hx1
  have HE := Aside0.mk hE
  clear hE
  go_upto_region 2 with fail
  have hE := HE.out.push #[.int .i64 t, .slice X0 l0.length x0, .slice X1 l1.length x1, .bool fl] 24
  obtain ⟨g3, hg⟩ : ∃ g, g = w1.heap.size := ⟨_, rfl⟩
  rw [← hg] at hE ⊢
  generalize w1.alloc (.cells #[.int .i64 t, .slice X0 l0.length x0, .slice X1 l1.length x1, .bool fl] 24) = w2 at hE ⊢
  clear hg HE
  have HE := Aside0.mk hE
  clear hE
  have xg3_0 : w2.cell? ⟨g3, 0, none⟩ = some (.int .i64 t) := HE.out.at_ 0 0 rfl rfl
  have xg3_1 : w2.cell? ⟨g3, 1, none⟩ = some (.slice X0 l0.length x0) := HE.out.at_ 0 1 rfl rfl
  have xg3_2 : w2.cell? ⟨g3, 2, none⟩ = some (.slice X1 l1.length x1) := HE.out.at_ 0 2 rfl rfl
  have xg3_3 : w2.cell? ⟨g3, 3, none⟩ = some (.bool fl) := HE.out.at_ 0 3 rfl rfl
  go_wp2_with fail
  refine (ledger_Ready.calls 70001 t X0 x0 l0 X1 x1 l1 fl RL _ (C_front (HE.out.row_ 0 rfl)) (by have := Hx0.out; omega) (C_front (HE.out.row_ 1 rfl)) (by have := Hx1.out; omega) (by rw [ready_eq 70001 t l0 l1 fl (by omega), HRL.out]) (HE.out.tab HT.out)).mono ?_
  clear xg3_0 xg3_1 xg3_2 xg3_3
  rintro e w3 ⟨v0, rfl, s0, hB⟩
  have hE := HE.out.row1 hB s0 3 (show ([3, 1, 2] : List Nat).Nodup from by decide) (by decide)
  obtain ⟨D0, d0, rfl⟩ := Kd.R_slice s0
  clear hB s0 HE
  have HE := Aside0.mk hE
  clear hE
  have xg3_0 : w3.cell? ⟨g3, 0, none⟩ = some (.int .i64 t) := HE.out.at_ 0 0 rfl rfl
  have xg3_1 : w3.cell? ⟨g3, 1, none⟩ = some (.slice X0 l0.length x0) := HE.out.at_ 0 1 rfl rfl
  have xg3_2 : w3.cell? ⟨g3, 2, none⟩ = some (.slice X1 l1.length x1) := HE.out.at_ 0 2 rfl rfl
  have xg3_3 : w3.cell? ⟨g3, 3, none⟩ = some (.bool fl) := HE.out.at_ 0 3 rfl rfl
  go_wp2_with fail
  refine (ledger_Ready.calls 70001 t X0 x0 l0 X1 x1 l1 fl RL _ (C_front (HE.out.row_ 1 rfl)) (by have := Hx0.out; omega) (C_front (HE.out.row_ 2 rfl)) (by have := Hx1.out; omega) (by rw [ready_eq 70001 t l0 l1 fl (by omega), HRL.out]) (HE.out.tab HT.out)).mono ?_
  clear xg3_0 xg3_1 xg3_2 xg3_3
  rintro e w4 ⟨v0, rfl, s0, hB⟩
  have hE := HE.out.row1 hB s0 4 (show ([4, 3, 1, 2] : List Nat).Nodup from by decide) (by decide)
  obtain ⟨D1, d1, rfl⟩ := Kd.R_slice s0
  clear hB s0 HE
  have HE := Aside0.mk hE
  clear hE
  have hE : Env w _ (⟨3, k29, 29, .slice D0 RL.length d0, RL⟩ :: ⟨4, k29, 29, .slice D1 RL.length d1, RL⟩ :: ⟨1, k38, 38, .slice X0 (l0 ++ marks).length x0, (l0 ++ marks)⟩ :: ⟨2, k38, 38, .slice X1 (l1 ++ marks).length x1, (l1 ++ marks)⟩ :: []) _ := HE.out.pick [1, 0, 2, 3] (show ([3, 4, 1, 2] : List Nat).Nodup from by decide)
  clear HE
  have HE := Aside0.mk hE
  clear hE
  obtain ⟨n, hn⟩ : ∃ n, RL.length = n := ⟨_, rfl⟩
  have hb0 : (n : Int) ≤ 70000 := by have := HRN.out; omega
  have HN := Aside0.mk hn
  go_wp2_with fail
  rw [hn] at HE
  clear hn
  go_loopw [6] (fun v wr => ∃ i : Nat, i ≤ n ∧ v = .int .i64 i ∧ ∃ l : List S29, Aside0 (l.length = n) ∧ Aside0 (Env w (⟨g3, #[.int .i64 t, .slice X0 l0.length x0, .slice X1 l1.length x1, .bool fl], 24⟩ :: ⟨g1, #[.int .i64 t, .slice A0 l0.length c0, .slice A1 l1.length c1, .bool fl], 24⟩ :: []) (⟨3, k29, 29, .slice D0 n d0, l⟩ :: ⟨4, k29, 29, .slice D1 n d1, RL⟩ :: ⟨1, k38, 38, .slice X0 (l0 ++ marks).length x0, (l0 ++ marks)⟩ :: ⟨2, k38, 38, .slice X1 (l1 ++ marks).length x1, (l1 ++ marks)⟩ :: []) wr)) (fun v _ => n - (intOf v).toNat)
  case atStart => exact ⟨0, by omega, rfl, RL, HN, HE⟩
  case round =>
    clear HE
    obtain ⟨i, hi, rfl, l, HL, HE⟩ := hrel
    by_cases hlt : i < n
    · have hd1 : decide ((i : Int) < (n : Int)) = true := by simp; omega
      have hd2 : decide (i < n) = true := by simp; omega
      obtain ⟨gr, c, e, ⟨b0, b1, hx30, hx31⟩, ⟨hf0, hf1⟩, hS2⟩ := HE.out.putt i (by rw [HL.out]; exact hlt) ⟨9, 0⟩
      injection e with e1 e2 e3
      subst e1 e3
      clear e2 HE
      have HS2 := Aside0.mk hS2
      have HLs := Aside0.mk (show (l.set i ⟨9, 0⟩).length = n by rw [List.length_set]; exact HL.out)
      clear hS2
      go_wp2_with fail
      go_roundw
      case rel => exact ⟨i + 1, by omega, by go_num, _, HLs, HS2⟩
      case measure => simp [intOf]; omega
    · obtain rfl : n = i := by omega
      go_wp2_with fail
      go_loopw [4, 7] (fun vm v wr => ∃ m : Nat, m ≤ 64 ∧ v = .int .i64 m ∧ ∃ l : List S29, Aside0 (l.length = n + m) ∧ Aside0 (Env w (⟨g3, #[.int .i64 t, .slice X0 l0.length x0, .slice X1 l1.length x1, .bool fl], 24⟩ :: ⟨g1, #[.int .i64 t, .slice A0 l0.length c0, .slice A1 l1.length c1, .bool fl], 24⟩ :: []) (⟨3, k29, 29, vm, l⟩ :: ⟨4, k29, 29, .slice D1 n d1, RL⟩ :: ⟨1, k38, 38, .slice X0 (l0 ++ marks).length x0, (l0 ++ marks)⟩ :: ⟨2, k38, 38, .slice X1 (l1 ++ marks).length x1, (l1 ++ marks)⟩ :: []) wr)) (fun _ v _ => 64 - (intOf v).toNat)
      case atStart => exact ⟨0, by omega, rfl, l, HL, HE⟩
      case round =>
        clear HE HL
        obtain ⟨m, hm, rfl, l2, HL, HE⟩ := hrel
        by_cases hlt3 : m < 64
        · have hd1 : decide ((m : Int) < 64) = true := by simp; omega
          obtain ⟨P, hR, hK⟩ := HE.out.write
          have G1 := Aside0.mk (show (l2.length + 1) * 16 ≤ 140737488355328 by have := HL.out; omega)
          have G3 := Aside0.mk (Kd.R_mono (ok' := fun k => P k ∨ wr.heap.size ≤ k) hR (fun k h => .inl h))
          have G9 := Aside0.mk HE.out.out
          have GS := Aside0.mk HE.out.size
          have GA := Aside0.mk (fun (v1 : Value) (w1 : World) => Env.app29 (W1 := w1) (u' := v1) (l' := l2 ++ [⟨8, 0⟩]) hK hR)
          have HL2 := Aside0.mk (show (l2 ++ [(⟨8, 0⟩ : S29)]).length = n + (m + 1) by rw [List.length_append, List.length_singleton]; have := HL.out; omega)
          clear HE hR hK
          go_wp2_with (first
            | ((with_reducible refine gate_builtin (b := .append) (xs := #[.tmp 37, .tmp 39]) rfl ?_); at_builtin; refine Kd.R_append k29 (w0 := w) w.heap.size rfl (.tmp 37) (.tmp 39) 26 29 (.agg #[.int .i64 0, .int .i64 0]) 16 rfl Tryd.underlying26 info29 rfl (by decide) (by omega) u4 l2 ⟨8, 0⟩ [.int .i64 8, .int .i64 0] (fun k => P k ∨ wr.heap.size ≤ k) (fun _ => False) rfl rfl (k29_mkM _ _ _ _) (fun _ hk => hk.elim) (fun k hk => .inr hk) G3.out G9.out GS.out (by have := G1.out; omega) ?_; intro v1 w1 ho hb hg hat; have hE := GA.out v1 w1 ho hb hg; have HQ1 := Aside0.mk hE; clear ho hb hg hat GA G1 G3 G9 GS hE))
          go_roundw
          case rel => exact ⟨m + 1, by omega, by go_num, _, HL2, HQ1⟩
          case measure => simp [intOf]; omega
        · obtain rfl : m = 64 := by omega
          obtain ⟨Dx, dx, hdx⟩ := HE.out.slice (List.mem_cons_self ..)
          rw [HL.out] at hdx
          subst hdx
          have hE := HE.out.lose1
          clear HE HL
          have HE := Aside0.mk hE
          clear hE
          go_upto_region 12 with fail
          have xg3_0 : wr.cell? ⟨g3, 0, none⟩ = some (.int .i64 t) := HE.out.at_ 0 0 rfl rfl
          have xg3_1 : wr.cell? ⟨g3, 1, none⟩ = some (.slice X0 l0.length x0) := HE.out.at_ 0 1 rfl rfl
          have xg3_2 : wr.cell? ⟨g3, 2, none⟩ = some (.slice X1 l1.length x1) := HE.out.at_ 0 2 rfl rfl
          have xg3_3 : wr.cell? ⟨g3, 3, none⟩ = some (.bool fl) := HE.out.at_ 0 3 rfl rfl
          go_wp2_with fail
          refine (ledger_Begun.calls t X0 x0 l0 X1 x1 l1 fl na nb _ (C_front (HE.out.row_ 1 rfl)) (by have := Hx0.out; omega) (C_front (HE.out.row_ 2 rfl)) (by have := Hx1.out; omega) (by unfold ledger_Begun.f; rw [if_pos ⟨HL0.out, HL1.out⟩, HBN.out]) (HE.out.tab HT.out)).mono ?_
          clear xg3_0 xg3_1 xg3_2 xg3_3
          rintro e w5 ⟨rfl, hB⟩
          have hE := HE.out.below hB
          clear HE hB
          have HE := Aside0.mk hE
          clear hE
          have xg1_0 : w5.cell? ⟨g1, 0, none⟩ = some (.int .i64 t) := HE.out.at_ 1 0 rfl rfl
          have xg1_1 : w5.cell? ⟨g1, 1, none⟩ = some (.slice A0 l0.length c0) := HE.out.at_ 1 1 rfl rfl
          have xg1_2 : w5.cell? ⟨g1, 2, none⟩ = some (.slice A1 l1.length c1) := HE.out.at_ 1 2 rfl rfl
          have xg1_3 : w5.cell? ⟨g1, 3, none⟩ = some (.bool fl) := HE.out.at_ 1 3 rfl rfl
          go_wp2_with fail
          refine (winnowref19_Begun.calls 70001 t A0 c0 l0 A1 c1 l1 fl na nb _ (HE.out.came HC0.out) Hc0.out (HE.out.came HC1.out) Hc1.out (by rw [refBegun 70001 t l0 l1 fl (by omega), HBN.out])).mono ?_
          clear xg1_0 xg1_1 xg1_2 xg1_3
          rintro e w6 ⟨rfl, hB⟩
          have hE := HE.out.below hB
          clear HE hB
          have HE := Aside0.mk hE
          clear hE
          have xg1_0 : w6.cell? ⟨g1, 0, none⟩ = some (.int .i64 t) := HE.out.at_ 1 0 rfl rfl
          have xg1_1 : w6.cell? ⟨g1, 1, none⟩ = some (.slice A0 l0.length c0) := HE.out.at_ 1 1 rfl rfl
          have xg1_2 : w6.cell? ⟨g1, 2, none⟩ = some (.slice A1 l1.length c1) := HE.out.at_ 1 2 rfl rfl
          have xg1_3 : w6.cell? ⟨g1, 3, none⟩ = some (.bool fl) := HE.out.at_ 1 3 rfl rfl
          go_wp2_with fail
          refine (winnowref19_Ready.calls 70001 t A0 c0 l0 A1 c1 l1 fl RL _ (HE.out.came HC0.out) Hc0.out (HE.out.came HC1.out) Hc1.out (by rw [refReady 70001 t l0 l1 fl (by omega), HRL.out])).mono ?_
          clear xg1_0 xg1_1 xg1_2 xg1_3
          rintro e w7 ⟨v0, rfl, s0, hB⟩
          have hE := HE.out.row1 hB s0 5 (show ([5, 4, 1, 2] : List Nat).Nodup from by decide) (by decide)
          obtain ⟨D2, d2, rfl⟩ := Kd.R_slice s0
          clear hB s0 HE
          have HE := Aside0.mk hE
          clear hE
          rw [HN.out] at HE ⊢
          go_upto_region 15 with fail
          have GA := Aside0.mk (fun (W : World) (h : Env w (⟨g3, #[.int .i64 t, .slice X0 l0.length x0, .slice X1 l1.length x1, .bool fl], 24⟩ :: ⟨g1, #[.int .i64 t, .slice A0 l0.length c0, .slice A1 l1.length c1, .bool fl], 24⟩ :: []) (⟨5, k29, 29, .slice D2 n d2, RL⟩ :: ⟨4, k29, 29, .slice D1 n d1, RL⟩ :: ⟨1, k38, 38, .slice X0 (l0 ++ marks).length x0, (l0 ++ marks)⟩ :: ⟨2, k38, 38, .slice X1 (l1 ++ marks).length x1, (l1 ++ marks)⟩ :: []) W) => (ledger_Check.calls t X0 x0 l0 X1 x1 l1 fl ck W (C_front (h.row_ 2 rfl)) (by have := Hx0.out; omega) (C_front (h.row_ 3 rfl)) (by have := Hx1.out; omega) (by unfold ledger_Check.f; rw [HCK.out]) (h.tab HT.out)).mono (fun e w' q => (show e = .returned (.int .i64 ck) ∧ Env w (⟨g3, #[.int .i64 t, .slice X0 l0.length x0, .slice X1 l1.length x1, .bool fl], 24⟩ :: ⟨g1, #[.int .i64 t, .slice A0 l0.length c0, .slice A1 l1.length c1, .bool fl], 24⟩ :: []) (⟨5, k29, 29, .slice D2 n d2, RL⟩ :: ⟨4, k29, 29, .slice D1 n d1, RL⟩ :: ⟨1, k38, 38, .slice X0 (l0 ++ marks).length x0, (l0 ++ marks)⟩ :: ⟨2, k38, 38, .slice X1 (l1 ++ marks).length x1, (l1 ++ marks)⟩ :: []) w' from ⟨q.1, h.below q.2⟩)))
          have GB := Aside0.mk (fun (W : World) (h : Env w (⟨g3, #[.int .i64 t, .slice X0 l0.length x0, .slice X1 l1.length x1, .bool fl], 24⟩ :: ⟨g1, #[.int .i64 t, .slice A0 l0.length c0, .slice A1 l1.length c1, .bool fl], 24⟩ :: []) (⟨5, k29, 29, .slice D2 n d2, RL⟩ :: ⟨4, k29, 29, .slice D1 n d1, RL⟩ :: ⟨1, k38, 38, .slice X0 (l0 ++ marks).length x0, (l0 ++ marks)⟩ :: ⟨2, k38, 38, .slice X1 (l1 ++ marks).length x1, (l1 ++ marks)⟩ :: []) W) => (winnowref19_Check.calls t A0 c0 l0 A1 c1 l1 fl ck W (h.came HC0.out) Hc0.out (h.came HC1.out) Hc1.out (by unfold winnowref19_Check.f; rw [HCK.out])).mono (fun e w' q => (show e = .returned (.int .i64 ck) ∧ Env w (⟨g3, #[.int .i64 t, .slice X0 l0.length x0, .slice X1 l1.length x1, .bool fl], 24⟩ :: ⟨g1, #[.int .i64 t, .slice A0 l0.length c0, .slice A1 l1.length c1, .bool fl], 24⟩ :: []) (⟨5, k29, 29, .slice D2 n d2, RL⟩ :: ⟨4, k29, 29, .slice D1 n d1, RL⟩ :: ⟨1, k38, 38, .slice X0 (l0 ++ marks).length x0, (l0 ++ marks)⟩ :: ⟨2, k38, 38, .slice X1 (l1 ++ marks).length x1, (l1 ++ marks)⟩ :: []) w' from ⟨q.1, h.below q.2⟩)))
          have HST := Aside0.mk (fun (A : Option Addr) (p : Nat) (A' : Option Addr) (p' : Nat) (W : World) (a : Kd.C k29 W A RL.length RL) (b : n ≤ p) (a' : Kd.C k29 W A' RL.length RL) (b' : n ≤ p') => (show Calls Tryd.prog 17 #[.slice A n p, .slice A' n p'] W (fun e w' => e = .returned (.bool true) ∧ Drawn0 W w') from by have q := winnowlaw19_sameTasks.calls 70001 A p RL A' p' RL true W a (by have := HN.out; omega) a' (by have := HN.out; omega) (sameT RL (by have := HRN.out; omega) _ (by have := HRN.out; omega)); rw [HN.out] at q; exact q))
          have GC := Aside0.mk (fun (W : World) (h : Env w (⟨g3, #[.int .i64 t, .slice X0 l0.length x0, .slice X1 l1.length x1, .bool fl], 24⟩ :: ⟨g1, #[.int .i64 t, .slice A0 l0.length c0, .slice A1 l1.length c1, .bool fl], 24⟩ :: []) (⟨5, k29, 29, .slice D2 n d2, RL⟩ :: ⟨4, k29, 29, .slice D1 n d1, RL⟩ :: ⟨1, k38, 38, .slice X0 (l0 ++ marks).length x0, (l0 ++ marks)⟩ :: ⟨2, k38, 38, .slice X1 (l1 ++ marks).length x1, (l1 ++ marks)⟩ :: []) W) => (HST.out D1 d1 D2 d2 W (h.row_ 1 rfl) (h.cap_ 1 rfl).2 (h.row_ 0 rfl) (h.cap_ 0 rfl).2).mono (fun e w' q => (show e = .returned (.bool true) ∧ Env w (⟨g3, #[.int .i64 t, .slice X0 l0.length x0, .slice X1 l1.length x1, .bool fl], 24⟩ :: ⟨g1, #[.int .i64 t, .slice A0 l0.length c0, .slice A1 l1.length c1, .bool fl], 24⟩ :: []) (⟨5, k29, 29, .slice D2 n d2, RL⟩ :: ⟨4, k29, 29, .slice D1 n d1, RL⟩ :: ⟨1, k38, 38, .slice X0 (l0 ++ marks).length x0, (l0 ++ marks)⟩ :: ⟨2, k38, 38, .slice X1 (l1 ++ marks).length x1, (l1 ++ marks)⟩ :: []) w' from ⟨q.1, h.below q.2.below⟩)))
          have GD := Aside0.mk (fun (W : World) (h : Env w (⟨g3, #[.int .i64 t, .slice X0 l0.length x0, .slice X1 l1.length x1, .bool fl], 24⟩ :: ⟨g1, #[.int .i64 t, .slice A0 l0.length c0, .slice A1 l1.length c1, .bool fl], 24⟩ :: []) (⟨5, k29, 29, .slice D2 n d2, RL⟩ :: ⟨4, k29, 29, .slice D1 n d1, RL⟩ :: ⟨1, k38, 38, .slice X0 (l0 ++ marks).length x0, (l0 ++ marks)⟩ :: ⟨2, k38, 38, .slice X1 (l1 ++ marks).length x1, (l1 ++ marks)⟩ :: []) W) => (ledger_Over.calls 70001 t X0 x0 l0 X1 x1 l1 fl ov W (C_front (h.row_ 2 rfl)) (by have := Hx0.out; omega) (C_front (h.row_ 3 rfl)) (by have := Hx1.out; omega) (by rw [over_eq 70001 t l0 l1 fl (by omega), HOV.out]) (h.tab HT.out)).mono (fun e w' q => (show e = .returned (.bool ov) ∧ Env w (⟨g3, #[.int .i64 t, .slice X0 l0.length x0, .slice X1 l1.length x1, .bool fl], 24⟩ :: ⟨g1, #[.int .i64 t, .slice A0 l0.length c0, .slice A1 l1.length c1, .bool fl], 24⟩ :: []) (⟨5, k29, 29, .slice D2 n d2, RL⟩ :: ⟨4, k29, 29, .slice D1 n d1, RL⟩ :: ⟨1, k38, 38, .slice X0 (l0 ++ marks).length x0, (l0 ++ marks)⟩ :: ⟨2, k38, 38, .slice X1 (l1 ++ marks).length x1, (l1 ++ marks)⟩ :: []) w' from ⟨q.1, h.below q.2⟩)))
          have GV := Aside0.mk (fun (W : World) (h : Env w (⟨g3, #[.int .i64 t, .slice X0 l0.length x0, .slice X1 l1.length x1, .bool fl], 24⟩ :: ⟨g1, #[.int .i64 t, .slice A0 l0.length c0, .slice A1 l1.length c1, .bool fl], 24⟩ :: []) (⟨5, k29, 29, .slice D2 n d2, RL⟩ :: ⟨4, k29, 29, .slice D1 n d1, RL⟩ :: ⟨1, k38, 38, .slice X0 (l0 ++ marks).length x0, (l0 ++ marks)⟩ :: ⟨2, k38, 38, .slice X1 (l1 ++ marks).length x1, (l1 ++ marks)⟩ :: []) W) => (winnowref19_Over.calls 70001 t A0 c0 l0 A1 c1 l1 fl ov W (h.came HC0.out) Hc0.out (h.came HC1.out) Hc1.out (by rw [refOver 70001 t l0 l1 fl (by omega), HOV.out])).mono (fun e w' q => (show e = .returned (.bool ov) ∧ Env w (⟨g3, #[.int .i64 t, .slice X0 l0.length x0, .slice X1 l1.length x1, .bool fl], 24⟩ :: ⟨g1, #[.int .i64 t, .slice A0 l0.length c0, .slice A1 l1.length c1, .bool fl], 24⟩ :: []) (⟨5, k29, 29, .slice D2 n d2, RL⟩ :: ⟨4, k29, 29, .slice D1 n d1, RL⟩ :: ⟨1, k38, 38, .slice X0 (l0 ++ marks).length x0, (l0 ++ marks)⟩ :: ⟨2, k38, 38, .slice X1 (l1 ++ marks).length x1, (l1 ++ marks)⟩ :: []) w' from ⟨q.1, h.below q.2⟩)))
          have GF := Aside0.mk (fun (W : World) (h : Env w (⟨g3, #[.int .i64 t, .slice X0 l0.length x0, .slice X1 l1.length x1, .bool fl], 24⟩ :: ⟨g1, #[.int .i64 t, .slice A0 l0.length c0, .slice A1 l1.length c1, .bool fl], 24⟩ :: []) (⟨5, k29, 29, .slice D2 n d2, RL⟩ :: ⟨4, k29, 29, .slice D1 n d1, RL⟩ :: ⟨1, k38, 38, .slice X0 (l0 ++ marks).length x0, (l0 ++ marks)⟩ :: ⟨2, k38, 38, .slice X1 (l1 ++ marks).length x1, (l1 ++ marks)⟩ :: []) W) => (kept_any t fl X0 A0 x0 c0 l0 X1 A1 x1 c1 l1 W (h.row_ 2 rfl) (h.row_ 3 rfl) (C_front (h.row_ 2 rfl)) (C_front (h.row_ 3 rfl)) (h.came HC0.out) (h.came HC1.out) Hx0.out Hx1.out Hc0.out Hc1.out HL0.out HL1.out).mono (fun e w' q => (show e = .returned (.bool true) ∧ Env w (⟨g3, #[.int .i64 t, .slice X0 l0.length x0, .slice X1 l1.length x1, .bool fl], 24⟩ :: ⟨g1, #[.int .i64 t, .slice A0 l0.length c0, .slice A1 l1.length c1, .bool fl], 24⟩ :: []) (⟨5, k29, 29, .slice D2 n d2, RL⟩ :: ⟨4, k29, 29, .slice D1 n d1, RL⟩ :: ⟨1, k38, 38, .slice X0 (l0 ++ marks).length x0, (l0 ++ marks)⟩ :: ⟨2, k38, 38, .slice X1 (l1 ++ marks).length x1, (l1 ++ marks)⟩ :: []) w' from ⟨q.1, h.below q.2⟩)))
          go_cut [13] (fun s0 wx => s0 = .bool true ∧ Aside0 (Env w (⟨g3, #[.int .i64 t, .slice X0 l0.length x0, .slice X1 l1.length x1, .bool fl], 24⟩ :: ⟨g1, #[.int .i64 t, .slice A0 l0.length c0, .slice A1 l1.length c1, .bool fl], 24⟩ :: []) (⟨5, k29, 29, .slice D2 n d2, RL⟩ :: ⟨4, k29, 29, .slice D1 n d1, RL⟩ :: ⟨1, k38, 38, .slice X0 (l0 ++ marks).length x0, (l0 ++ marks)⟩ :: ⟨2, k38, 38, .slice X1 (l1 ++ marks).length x1, (l1 ++ marks)⟩ :: []) wx))
          case first =>
            as_aux_lemma =>
              have hw64 : IntKind.i64.wrap ((n : Int) + 64) = (n : Int) + 64 := by rw [IntKind.wrap_i64]; omega
              have HSX := Aside0.mk (fun (w' : World) (h : Env w (⟨g3, #[.int .i64 t, .slice X0 l0.length x0, .slice X1 l1.length x1, .bool fl], 24⟩ :: ⟨g1, #[.int .i64 t, .slice A0 l0.length c0, .slice A1 l1.length c1, .bool fl], 24⟩ :: []) [] w') => (show w'.cell? ⟨g3, 0, none⟩ = some (.int .i64 t) ∧ w'.cell? ⟨g3, 1, none⟩ = some (.slice X0 l0.length x0) ∧ w'.cell? ⟨g3, 2, none⟩ = some (.slice X1 l1.length x1) ∧ w'.cell? ⟨g3, 3, none⟩ = some (.bool fl) ∧ w'.cell? ⟨g1, 0, none⟩ = some (.int .i64 t) ∧ w'.cell? ⟨g1, 1, none⟩ = some (.slice A0 l0.length c0) ∧ w'.cell? ⟨g1, 2, none⟩ = some (.slice A1 l1.length c1) ∧ w'.cell? ⟨g1, 3, none⟩ = some (.bool fl) from ⟨h.at_ 0 0 rfl rfl, h.at_ 0 1 rfl rfl, h.at_ 0 2 rfl rfl, h.at_ 0 3 rfl rfl, h.at_ 1 0 rfl rfl, h.at_ 1 1 rfl rfl, h.at_ 1 2 rfl rfl, h.at_ 1 3 rfl rfl⟩))
              go_region_held3 (fun w' => w'.cell? ⟨g3, 0, none⟩ = some (.int .i64 t) ∧ w'.cell? ⟨g3, 1, none⟩ = some (.slice X0 l0.length x0) ∧ w'.cell? ⟨g3, 2, none⟩ = some (.slice X1 l1.length x1) ∧ w'.cell? ⟨g3, 3, none⟩ = some (.bool fl) ∧ w'.cell? ⟨g1, 0, none⟩ = some (.int .i64 t) ∧ w'.cell? ⟨g1, 1, none⟩ = some (.slice A0 l0.length c0) ∧ w'.cell? ⟨g1, 2, none⟩ = some (.slice A1 l1.length c1) ∧ w'.cell? ⟨g1, 3, none⟩ = some (.bool fl)) (first
                  | exact HSX.out _ HF.out.bare
                  | exact HSX.out _ HV.out.bare
                  | exact HSX.out _ HD.out.bare
                  | exact HSX.out _ HC.out.bare
                  | exact HSX.out _ HB.out.bare
                  | exact HSX.out _ HA.out.bare
                  | exact HSX.out _ HE.out.drew.bare
                  | exact HSX.out _ HE.out.bare) (first
                  | ((go_at_call 15; (with_reducible refine (GA.out _ (by first | exact HB.out | exact HE.out.drew)).mono ?_); rintro e wHA ⟨rfl, hE⟩; have HA := Aside0.mk hE; clear hE))
                  | ((go_at_call 16; (with_reducible refine (GB.out _ (by first | exact HA.out | exact HE.out.drew)).mono ?_); rintro e wHB ⟨rfl, hE⟩; have HB := Aside0.mk hE; clear hE))
                  | ((go_at_call 17; (with_reducible refine (GC.out _ (by first | exact HB.out | exact HA.out)).mono ?_); rintro e wHC ⟨rfl, hE⟩; have HC := Aside0.mk hE; clear hE))
                  | ((go_at_call 18; (with_reducible refine (GD.out _ (by first | exact HV.out | exact HC.out)).mono ?_); rintro e wHD ⟨rfl, hE⟩; have HD := Aside0.mk hE; clear hE))
                  | ((go_at_call 19; (with_reducible refine (GV.out _ (by first | exact HD.out | exact HC.out)).mono ?_); rintro e wHV ⟨rfl, hE⟩; have HV := Aside0.mk hE; clear hE))
                  | ((go_at_call 20; (with_reducible refine (GF.out _ (by first | exact HV.out | exact HD.out)).mono ?_); rintro e wHF ⟨rfl, hE⟩; have HF := Aside0.mk hE; clear hE)))
              all_goals (go_wp2_with fail; go_meet; exact ⟨by first | rfl | simp, HF⟩)
          case rest =>
            as_aux_lemma =>
              clear HE GA GB GC GD GV GF
              obtain ⟨rfl, HE⟩ := hcut
              go_upto_region 18 with fail
              have xg1_0 : wc.cell? ⟨g1, 0, none⟩ = some (.int .i64 t) := HE.out.at_ 1 0 rfl rfl
              have xg1_1 : wc.cell? ⟨g1, 1, none⟩ = some (.slice A0 l0.length c0) := HE.out.at_ 1 1 rfl rfl
              have xg1_2 : wc.cell? ⟨g1, 2, none⟩ = some (.slice A1 l1.length c1) := HE.out.at_ 1 2 rfl rfl
              have xg1_3 : wc.cell? ⟨g1, 3, none⟩ = some (.bool fl) := HE.out.at_ 1 3 rfl rfl
              go_wp2_with fail
              refine (given_any t fl A0 c0 l0 A1 c1 l1 _ (HE.out.came HC0.out) Hc0.out (HE.out.came HC1.out) Hc1.out HL0.out HL1.out).mono ?_
              clear xg1_0 xg1_1 xg1_2 xg1_3
              rintro e w8 ⟨Y0, y0, Y1, y1, rfl, hx0, hx1, s0, s1, hB⟩
              have hE := HE.out.rows2 hB rfl s0 s1 6 7 (show ([6, 7, 5, 4, 1, 2] : List Nat).Nodup from by decide) (by decide) (by decide)
              have Hy0 := Aside0.mk hx0
              have Hy1 := Aside0.mk hx1
              clear hB s0 s1 HE hx0 hx1
              have HE := Aside0.mk hE
              clear hE
              have hE : Env w _ (⟨6, k38, 38, .slice Y0 (l0 ++ marks).length y0, (l0 ++ marks)⟩ :: ⟨7, k38, 38, .slice Y1 (l1 ++ marks).length y1, (l1 ++ marks)⟩ :: ⟨5, k29, 29, .slice D2 n d2, RL⟩ :: ⟨4, k29, 29, .slice D1 n d1, RL⟩ :: ⟨1, k38, 38, .slice X0 (l0 ++ marks).length x0, (l0 ++ marks)⟩ :: ⟨2, k38, 38, .slice X1 (l1 ++ marks).length x1, (l1 ++ marks)⟩ :: []) _ := HE.out.pick [0, 1, 2, 3, 4, 5] (show ([6, 7, 5, 4, 1, 2] : List Nat).Nodup from by decide)
              clear HE
              have HE := Aside0.mk hE
              clear hE
              have hE := HE.out.front.swap.front.swap
              clear HE
              have HE := Aside0.mk hE
              clear hE
              go_wp2_with fail
              refine (turned_env t fl HE.out HL0.out HL1.out).mono ?_
              rintro e w9 ⟨rfl, hE⟩
              clear HE
              have HE := Aside0.mk hE
              clear hE
              go_upto_region 19 with fail
              have hE := HE.out.push #[.int .i64 t, .slice Y0 l0.length y0, .slice Y1 l1.length y1, .bool fl] 24
              obtain ⟨g14, hg⟩ : ∃ g, g = w9.heap.size := ⟨_, rfl⟩
              rw [← hg] at hE ⊢
              generalize w9.alloc (.cells #[.int .i64 t, .slice Y0 l0.length y0, .slice Y1 l1.length y1, .bool fl] 24) = w10 at hE ⊢
              clear hg HE
              have HE := Aside0.mk hE
              clear hE
              have xg3_0 : w10.cell? ⟨g3, 0, none⟩ = some (.int .i64 t) := HE.out.at_ 1 0 rfl rfl
              have xg3_1 : w10.cell? ⟨g3, 1, none⟩ = some (.slice X0 l0.length x0) := HE.out.at_ 1 1 rfl rfl
              have xg3_2 : w10.cell? ⟨g3, 2, none⟩ = some (.slice X1 l1.length x1) := HE.out.at_ 1 2 rfl rfl
              have xg3_3 : w10.cell? ⟨g3, 3, none⟩ = some (.bool fl) := HE.out.at_ 1 3 rfl rfl
              go_wp2_with fail
              have hE : Env w _ (⟨1, k38, 38, .slice X0 (l0 ++ marks).length x0, (l0 ++ marks)⟩ :: ⟨2, k38, 38, .slice X1 (l1 ++ marks).length x1, (l1 ++ marks)⟩ :: ⟨6, k38, 38, .slice Y0 l0.length y0, (turn l0)⟩ :: ⟨7, k38, 38, .slice Y1 l1.length y1, (turn l1)⟩ :: ⟨5, k29, 29, .slice D2 n d2, RL⟩ :: ⟨4, k29, 29, .slice D1 n d1, RL⟩ :: []) _ := HE.out.pick [4, 5, 0, 1, 2, 3] (show ([1, 2, 6, 7, 5, 4] : List Nat).Nodup from by decide)
              clear HE
              have HE := Aside0.mk hE
              clear hE
              have hE := HE.out.front.swap.front.swap
              clear HE
              have HE := Aside0.mk hE
              clear hE
              refine (turned_env t fl HE.out HL0.out HL1.out).mono ?_
              clear xg3_0 xg3_1 xg3_2 xg3_3
              rintro e w11 ⟨rfl, hE⟩
              clear HE
              have HE := Aside0.mk hE
              clear hE
              go_upto_region 20 with fail
              obtain ⟨bt, hbt⟩ : ∃ b : Bool, decide (0 < l1.length ∧ l1.length < 300) = b := ⟨_, rfl⟩
              have HBT := Aside0.mk hbt
              clear hbt
              go_cut [109] (fun s109 wx => s109 = .bool bt ∧ Aside0 (Env w (⟨g14, #[.int .i64 t, .slice Y0 l0.length y0, .slice Y1 l1.length y1, .bool fl], 24⟩ :: ⟨g3, #[.int .i64 t, .slice X0 l0.length x0, .slice X1 l1.length x1, .bool fl], 24⟩ :: ⟨g1, #[.int .i64 t, .slice A0 l0.length c0, .slice A1 l1.length c1, .bool fl], 24⟩ :: []) (⟨1, k38, 38, .slice X0 l0.length x0, (turn l0)⟩ :: ⟨2, k38, 38, .slice X1 l1.length x1, (turn l1)⟩ :: ⟨6, k38, 38, .slice Y0 l0.length y0, (turn l0)⟩ :: ⟨7, k38, 38, .slice Y1 l1.length y1, (turn l1)⟩ :: ⟨5, k29, 29, .slice D2 n d2, RL⟩ :: ⟨4, k29, 29, .slice D1 n d1, RL⟩ :: []) wx))
              case first =>
                as_aux_lemma =>
                  have xg1_0 : w11.cell? ⟨g1, 0, none⟩ = some (.int .i64 t) := HE.out.at_ 2 0 rfl rfl
                  have xg1_1 : w11.cell? ⟨g1, 1, none⟩ = some (.slice A0 l0.length c0) := HE.out.at_ 2 1 rfl rfl
                  have xg1_2 : w11.cell? ⟨g1, 2, none⟩ = some (.slice A1 l1.length c1) := HE.out.at_ 2 2 rfl rfl
                  have xg1_3 : w11.cell? ⟨g1, 3, none⟩ = some (.bool fl) := HE.out.at_ 2 3 rfl rfl
                  by_cases h1 : 0 < l1.length
                  · by_cases h2 : l1.length < 300
                    · have e1 : decide (0 < l1.length) = true := decide_eq_true h1
                      have e2 : decide ((l1.length : Int) < 300) = true := decide_eq_true (by omega)
                      have hb := HBT.out
                      rw [decide_eq_true (show 0 < l1.length ∧ l1.length < 300 from ⟨h1, h2⟩)] at hb
                      subst hb
                      clear h1 h2
                      go_wp2_with fail
                      go_meet
                      exact ⟨rfl, HE⟩
                    · have e1 : decide (0 < l1.length) = true := decide_eq_true h1
                      have e2 : decide ((l1.length : Int) < 300) = false := decide_eq_false (by omega)
                      have hb := HBT.out
                      rw [decide_eq_false (show ¬ (0 < l1.length ∧ l1.length < 300) from fun q => h2 q.2)] at hb
                      subst hb
                      clear h1 h2
                      go_wp2_with fail
                      go_meet
                      exact ⟨rfl, HE⟩
                  · have e1 : decide (0 < l1.length) = false := decide_eq_false h1
                    have hb := HBT.out
                    rw [decide_eq_false (show ¬ (0 < l1.length ∧ l1.length < 300) from fun q => h1 q.1)] at hb
                    subst hb
                    clear h1
                    go_wp2_with fail
                    go_meet
                    exact ⟨rfl, HE⟩
              case rest =>
                as_aux_lemma =>
                  clear HE
                  obtain ⟨rfl, HE⟩ := hcut
                  go_upto_if 109 with fail
                  go_cut [16] (fun s16 wx => Aside0 (Env w (⟨g14, #[.int .i64 t, .slice Y0 l0.length y0, .slice Y1 l1.length y1, .bool fl], 24⟩ :: ⟨g3, #[.int .i64 t, .slice X0 l0.length x0, .slice X1 l1.length x1, .bool fl], 24⟩ :: ⟨g1, #[.int .i64 t, .slice A0 l0.length c0, .slice A1 l1.length c1, .bool fl], 24⟩ :: []) (⟨1, k38, 38, .slice X0 l0.length x0, (turn l0)⟩ :: ⟨2, k38, 38, .slice X1 l1.length x1, (turn l1)⟩ :: ⟨6, k38, 38, .slice Y0 l0.length y0, (turn l0)⟩ :: ⟨7, k38, 38, .slice Y1 l1.length y1, (turn l1)⟩ :: ⟨5, k29, 29, .slice D2 n d2, RL⟩ :: ⟨4, k29, 29, .slice D1 n d1, RL⟩ :: []) wx))
                  case first =>
                    as_aux_lemma =>
                      cases bt
                      · go_wp2_with fail
                        go_meet
                        exact HE
                      · have hpos : 0 < l1.length := (of_decide_eq_true HBT.out).1
                        have HPOS := Aside0.mk hpos
                        obtain ⟨s, hs⟩ : ∃ s : S38, (turn l1)[0]'(by rw [HTL1.out]; exact HPOS.out) = s := ⟨_, rfl⟩
                        obtain ⟨a2, ha2⟩ : ∃ x : Int, wrap64 (s.f1 + 2) = x := ⟨_, rfl⟩
                        obtain ⟨M, hM⟩ : ∃ M : List S38, (turn l1).set 0 ⟨s.f0, a2, s.f2⟩ = M := ⟨_, rfl⟩
                        have HS := Aside0.mk hs
                        have HA2 := Aside0.mk ha2
                        have HM := Aside0.mk hM
                        have HML := Aside0.mk (show M.length = l1.length by rw [← hM, List.length_set]; exact HTL1.out)
                        clear hs ha2 hM hpos
                        go_upto_region 21 with fail
                        have xg14_0 : wc.cell? ⟨g14, 0, none⟩ = some (.int .i64 t) := HE.out.at_ 0 0 rfl rfl
                        have xg14_1 : wc.cell? ⟨g14, 1, none⟩ = some (.slice Y0 l0.length y0) := HE.out.at_ 0 1 rfl rfl
                        have xg14_2 : wc.cell? ⟨g14, 2, none⟩ = some (.slice Y1 l1.length y1) := HE.out.at_ 0 2 rfl rfl
                        have xg14_3 : wc.cell? ⟨g14, 3, none⟩ = some (.bool fl) := HE.out.at_ 0 3 rfl rfl
                        go_wp2_with fail
                        have qc := given_any t fl Y0 y0 (turn l0) Y1 y1 (turn l1) _ (HE.out.row_ 2 rfl) (by rw [HTL0.out]; have := Hy0.out; omega) (HE.out.row_ 3 rfl) (by rw [HTL1.out]; have := Hy1.out; omega) HLT0.out HLT1.out
                        rw [HTL0.out, HTL1.out] at qc
                        refine qc.mono ?_
                        clear xg14_0 xg14_1 xg14_2 xg14_3
                        clear qc
                        rintro e w12 ⟨V0, v0_, V1, v1_, rfl, hx0, hx1, s0, s1, hB⟩
                        have hE := HE.out.rows2 hB rfl s0 s1 8 9 (show ([8, 9, 1, 2, 6, 7, 5, 4] : List Nat).Nodup from by decide) (by decide) (by decide)
                        have Hv0 := Aside0.mk hx0
                        have Hv1 := Aside0.mk hx1
                        clear hB s0 s1 HE hx0 hx1
                        have HE := Aside0.mk hE
                        clear hE
                        have hE : Env w _ (⟨8, k38, 38, .slice V0 ((turn l0) ++ marks).length v0_, ((turn l0) ++ marks)⟩ :: ⟨9, k38, 38, .slice V1 ((turn l1) ++ marks).length v1_, ((turn l1) ++ marks)⟩ :: ⟨1, k38, 38, .slice X0 l0.length x0, (turn l0)⟩ :: ⟨2, k38, 38, .slice X1 l1.length x1, (turn l1)⟩ :: ⟨6, k38, 38, .slice Y0 l0.length y0, (turn l0)⟩ :: ⟨7, k38, 38, .slice Y1 l1.length y1, (turn l1)⟩ :: ⟨5, k29, 29, .slice D2 n d2, RL⟩ :: ⟨4, k29, 29, .slice D1 n d1, RL⟩ :: []) _ := HE.out.pick [0, 1, 2, 3, 4, 5, 6, 7] (show ([8, 9, 1, 2, 6, 7, 5, 4] : List Nat).Nodup from by decide)
                        clear HE
                        have HE := Aside0.mk hE
                        clear hE
                        have hE := HE.out.front.swap.front.swap
                        clear HE
                        have HE := Aside0.mk hE
                        clear hE
                        go_upto_region 22 with fail
                        have hE := HE.out.push #[.int .i64 t, .slice V0 l0.length v0_, .slice V1 l1.length v1_, .bool fl] 24
                        obtain ⟨g15, hg⟩ : ∃ g, g = w12.heap.size := ⟨_, rfl⟩
                        rw [← hg] at hE ⊢
                        generalize w12.alloc (.cells #[.int .i64 t, .slice V0 l0.length v0_, .slice V1 l1.length v1_, .bool fl] 24) = w13 at hE ⊢
                        clear hg HE
                        have HE := Aside0.mk hE
                        clear hE
                        have hE : Env w _ (⟨9, k38, 38, .slice V1 (turn l1).length v1_, (turn l1)⟩ :: ⟨8, k38, 38, .slice V0 (turn l0).length v0_, (turn l0)⟩ :: ⟨1, k38, 38, .slice X0 l0.length x0, (turn l0)⟩ :: ⟨2, k38, 38, .slice X1 l1.length x1, (turn l1)⟩ :: ⟨6, k38, 38, .slice Y0 l0.length y0, (turn l0)⟩ :: ⟨7, k38, 38, .slice Y1 l1.length y1, (turn l1)⟩ :: ⟨5, k29, 29, .slice D2 n d2, RL⟩ :: ⟨4, k29, 29, .slice D1 n d1, RL⟩ :: []) _ := HE.out.pick [1, 0, 2, 3, 4, 5, 6, 7] (show ([9, 8, 1, 2, 6, 7, 5, 4] : List Nat).Nodup from by decide)
                        clear HE
                        have HE := Aside0.mk hE
                        clear hE
                        obtain ⟨gv, cp_, ev, hy, hf, hset⟩ := HE.out.att 0 (by first | (rw [HTL1.out]; exact HPOS.out) | (rw [HML.out]; exact HPOS.out))
                        injection ev with ev1 ev2 ev3
                        subst ev1 ev3
                        clear ev2
                        have hset2 := hset a2
                        rw [HS.out, HM.out] at hset2
                        have HSET := Aside0.mk hset2
                        clear hset hset2
                        have y1_ : w13.cell? ⟨gv, 1, none⟩ = some (.int .i64 s.f1) := by have q := hy; rw [HS.out] at q; exact q
                        have f1_ : w13.frozen? ⟨gv, 1, none⟩ = false := hf
                        clear hy hf
                        have p0_ : decide (0 < l1.length) = true := decide_eq_true HPOS.out
                        have p1_ : (0 < l1.length) = True := eq_true HPOS.out
                        have hw2_ := (show IntKind.i64.wrap (s.f1 + 2) = a2 from (i64_w _).trans HA2.out)
                        have xg15_0 : w13.cell? ⟨g15, 0, none⟩ = some (.int .i64 t) := HE.out.at_ 0 0 rfl rfl
                        have xg15_1 : w13.cell? ⟨g15, 1, none⟩ = some (.slice V0 l0.length v0_) := HE.out.at_ 0 1 rfl rfl
                        have xg15_2 : w13.cell? ⟨g15, 2, none⟩ = some (.slice (some ⟨gv, 0, none⟩) l1.length v1_) := HE.out.at_ 0 2 rfl rfl
                        have xg15_3 : w13.cell? ⟨g15, 3, none⟩ = some (.bool fl) := HE.out.at_ 0 3 rfl rfl
                        go_region
                        go_upto_region 23 with fail
                        have hE : Env w _ _ ((w13.setCell ⟨gv, 1, none⟩ (.int .i64 a2)).drew) := HSET.out.drew
                        generalize (w13.setCell ⟨gv, 1, none⟩ (.int .i64 a2)).drew = w14 at hE ⊢
                        clear xg15_0 xg15_1 xg15_2 xg15_3
                        clear HSET y1_ f1_ p0_ p1_ hw2_ HE
                        have HE := Aside0.mk hE
                        clear hE
                        have hE : Env w _ (⟨2, k38, 38, .slice X1 l1.length x1, (turn l1)⟩ :: ⟨9, k38, 38, .slice (some ⟨gv, 0, none⟩) (turn l1).length v1_, M⟩ :: ⟨8, k38, 38, .slice V0 (turn l0).length v0_, (turn l0)⟩ :: ⟨1, k38, 38, .slice X0 l0.length x0, (turn l0)⟩ :: ⟨6, k38, 38, .slice Y0 l0.length y0, (turn l0)⟩ :: ⟨7, k38, 38, .slice Y1 l1.length y1, (turn l1)⟩ :: ⟨5, k29, 29, .slice D2 n d2, RL⟩ :: ⟨4, k29, 29, .slice D1 n d1, RL⟩ :: []) _ := HE.out.pick [3, 0, 1, 2, 4, 5, 6, 7] (show ([2, 9, 8, 1, 6, 7, 5, 4] : List Nat).Nodup from by decide)
                        clear HE
                        have HE := Aside0.mk hE
                        clear hE
                        obtain ⟨gx, cp_, ev, hy, hf, hset⟩ := HE.out.att 0 (by first | (rw [HTL1.out]; exact HPOS.out) | (rw [HML.out]; exact HPOS.out))
                        injection ev with ev1 ev2 ev3
                        subst ev1 ev3
                        clear ev2
                        have hset2 := hset a2
                        rw [HS.out, HM.out] at hset2
                        have HSET := Aside0.mk hset2
                        clear hset hset2
                        have y1_ : w14.cell? ⟨gx, 1, none⟩ = some (.int .i64 s.f1) := by have q := hy; rw [HS.out] at q; exact q
                        have f1_ : w14.frozen? ⟨gx, 1, none⟩ = false := hf
                        clear hy hf
                        have p0_ : decide (0 < l1.length) = true := decide_eq_true HPOS.out
                        have p1_ : (0 < l1.length) = True := eq_true HPOS.out
                        have hw2_ := (show IntKind.i64.wrap (s.f1 + 2) = a2 from (i64_w _).trans HA2.out)
                        have xg3_0 : w14.cell? ⟨g3, 0, none⟩ = some (.int .i64 t) := HE.out.at_ 2 0 rfl rfl
                        have xg3_1 : w14.cell? ⟨g3, 1, none⟩ = some (.slice X0 l0.length x0) := HE.out.at_ 2 1 rfl rfl
                        have xg3_2 : w14.cell? ⟨g3, 2, none⟩ = some (.slice (some ⟨gx, 0, none⟩) l1.length x1) := HE.out.at_ 2 2 rfl rfl
                        have xg3_3 : w14.cell? ⟨g3, 3, none⟩ = some (.bool fl) := HE.out.at_ 2 3 rfl rfl
                        go_region
                        go_upto_region 24 with fail
                        have hE : Env w _ _ ((w14.setCell ⟨gx, 1, none⟩ (.int .i64 a2)).drew) := HSET.out.drew
                        generalize (w14.setCell ⟨gx, 1, none⟩ (.int .i64 a2)).drew = w15 at hE ⊢
                        clear xg3_0 xg3_1 xg3_2 xg3_3
                        clear HSET y1_ f1_ p0_ p1_ hw2_ HE
                        have HE := Aside0.mk hE
                        clear hE
                        obtain ⟨RL9, hRL⟩ : ∃ r, readyP t (turn l0) M fl = r := ⟨_, rfl⟩
                        obtain ⟨ck9, hck⟩ : ∃ r, checkP t (turn l0) M fl = r := ⟨_, rfl⟩
                        obtain ⟨ov9, hov⟩ : ∃ r, overP t (turn l0) M fl = r := ⟨_, rfl⟩
                        obtain ⟨⟨na9, nb9⟩, hbn⟩ : ∃ r, begunP t (turn l0) M fl = r := ⟨_, rfl⟩
                        have HRL9 := Aside0.mk hRL
                        have HCK9 := Aside0.mk hck
                        have HOV9 := Aside0.mk hov
                        have HBN9 := Aside0.mk hbn
                        have HRN9 := Aside0.mk (show RL9.length ≤ 70000 by rw [← hRL]; exact readyP_len t (turn l0) M fl)
                        clear hRL hck hov hbn
                        have GA9 : Aside0 (∀ W : World, Env w (⟨g15, #[.int .i64 t, .slice V0 l0.length v0_, .slice (some ⟨gv, 0, none⟩) l1.length v1_, .bool fl], 24⟩ :: ⟨g14, #[.int .i64 t, .slice Y0 l0.length y0, .slice Y1 l1.length y1, .bool fl], 24⟩ :: ⟨g3, #[.int .i64 t, .slice X0 l0.length x0, .slice (some ⟨gx, 0, none⟩) l1.length x1, .bool fl], 24⟩ :: ⟨g1, #[.int .i64 t, .slice A0 l0.length c0, .slice A1 l1.length c1, .bool fl], 24⟩ :: []) (⟨2, k38, 38, .slice (some ⟨gx, 0, none⟩) l1.length x1, M⟩ :: ⟨9, k38, 38, .slice (some ⟨gv, 0, none⟩) (turn l1).length v1_, M⟩ :: ⟨8, k38, 38, .slice V0 (turn l0).length v0_, (turn l0)⟩ :: ⟨1, k38, 38, .slice X0 l0.length x0, (turn l0)⟩ :: ⟨6, k38, 38, .slice Y0 l0.length y0, (turn l0)⟩ :: ⟨7, k38, 38, .slice Y1 l1.length y1, (turn l1)⟩ :: ⟨5, k29, 29, .slice D2 n d2, RL⟩ :: ⟨4, k29, 29, .slice D1 n d1, RL⟩ :: []) W → Calls Tryd.prog 15 #[.agg #[.int .i64 t, .slice X0 l0.length x0, .slice (some ⟨gx, 0, none⟩) l1.length x1, .bool fl]] W (fun e w' => e = .returned (.int .i64 ck9) ∧ Env w (⟨g15, #[.int .i64 t, .slice V0 l0.length v0_, .slice (some ⟨gv, 0, none⟩) l1.length v1_, .bool fl], 24⟩ :: ⟨g14, #[.int .i64 t, .slice Y0 l0.length y0, .slice Y1 l1.length y1, .bool fl], 24⟩ :: ⟨g3, #[.int .i64 t, .slice X0 l0.length x0, .slice (some ⟨gx, 0, none⟩) l1.length x1, .bool fl], 24⟩ :: ⟨g1, #[.int .i64 t, .slice A0 l0.length c0, .slice A1 l1.length c1, .bool fl], 24⟩ :: []) (⟨2, k38, 38, .slice (some ⟨gx, 0, none⟩) l1.length x1, M⟩ :: ⟨9, k38, 38, .slice (some ⟨gv, 0, none⟩) (turn l1).length v1_, M⟩ :: ⟨8, k38, 38, .slice V0 (turn l0).length v0_, (turn l0)⟩ :: ⟨1, k38, 38, .slice X0 l0.length x0, (turn l0)⟩ :: ⟨6, k38, 38, .slice Y0 l0.length y0, (turn l0)⟩ :: ⟨7, k38, 38, .slice Y1 l1.length y1, (turn l1)⟩ :: ⟨5, k29, 29, .slice D2 n d2, RL⟩ :: ⟨4, k29, 29, .slice D1 n d1, RL⟩ :: []) w')) := Aside0.mk (fun W h => by have qc := ledger_Check.calls t X0 x0 (turn l0) (some ⟨gx, 0, none⟩) x1 M fl ck9 W (h.row_ 3 rfl) (by rw [HTL0.out]; have := Hx0.out; omega) (h.row_ 0 rfl) (by first | (rw [HTL1.out]; have := Hx1.out; omega) | (rw [HML.out]; have := Hx1.out; omega)) (by unfold ledger_Check.f; rw [HCK9.out]) (h.tab HT.out); (try rw [HTL0.out] at qc); (try rw [HTL1.out] at qc); (try rw [HML.out] at qc); exact qc.mono (fun e w' q => ⟨q.1, h.below q.2⟩))
                        have GB9 : Aside0 (∀ W : World, Env w (⟨g15, #[.int .i64 t, .slice V0 l0.length v0_, .slice (some ⟨gv, 0, none⟩) l1.length v1_, .bool fl], 24⟩ :: ⟨g14, #[.int .i64 t, .slice Y0 l0.length y0, .slice Y1 l1.length y1, .bool fl], 24⟩ :: ⟨g3, #[.int .i64 t, .slice X0 l0.length x0, .slice (some ⟨gx, 0, none⟩) l1.length x1, .bool fl], 24⟩ :: ⟨g1, #[.int .i64 t, .slice A0 l0.length c0, .slice A1 l1.length c1, .bool fl], 24⟩ :: []) (⟨2, k38, 38, .slice (some ⟨gx, 0, none⟩) l1.length x1, M⟩ :: ⟨9, k38, 38, .slice (some ⟨gv, 0, none⟩) (turn l1).length v1_, M⟩ :: ⟨8, k38, 38, .slice V0 (turn l0).length v0_, (turn l0)⟩ :: ⟨1, k38, 38, .slice X0 l0.length x0, (turn l0)⟩ :: ⟨6, k38, 38, .slice Y0 l0.length y0, (turn l0)⟩ :: ⟨7, k38, 38, .slice Y1 l1.length y1, (turn l1)⟩ :: ⟨5, k29, 29, .slice D2 n d2, RL⟩ :: ⟨4, k29, 29, .slice D1 n d1, RL⟩ :: []) W → Calls Tryd.prog 16 #[.agg #[.int .i64 t, .slice V0 l0.length v0_, .slice (some ⟨gv, 0, none⟩) l1.length v1_, .bool fl]] W (fun e w' => e = .returned (.int .i64 ck9) ∧ Env w (⟨g15, #[.int .i64 t, .slice V0 l0.length v0_, .slice (some ⟨gv, 0, none⟩) l1.length v1_, .bool fl], 24⟩ :: ⟨g14, #[.int .i64 t, .slice Y0 l0.length y0, .slice Y1 l1.length y1, .bool fl], 24⟩ :: ⟨g3, #[.int .i64 t, .slice X0 l0.length x0, .slice (some ⟨gx, 0, none⟩) l1.length x1, .bool fl], 24⟩ :: ⟨g1, #[.int .i64 t, .slice A0 l0.length c0, .slice A1 l1.length c1, .bool fl], 24⟩ :: []) (⟨2, k38, 38, .slice (some ⟨gx, 0, none⟩) l1.length x1, M⟩ :: ⟨9, k38, 38, .slice (some ⟨gv, 0, none⟩) (turn l1).length v1_, M⟩ :: ⟨8, k38, 38, .slice V0 (turn l0).length v0_, (turn l0)⟩ :: ⟨1, k38, 38, .slice X0 l0.length x0, (turn l0)⟩ :: ⟨6, k38, 38, .slice Y0 l0.length y0, (turn l0)⟩ :: ⟨7, k38, 38, .slice Y1 l1.length y1, (turn l1)⟩ :: ⟨5, k29, 29, .slice D2 n d2, RL⟩ :: ⟨4, k29, 29, .slice D1 n d1, RL⟩ :: []) w')) := Aside0.mk (fun W h => by have qc := winnowref19_Check.calls t V0 v0_ (turn l0) (some ⟨gv, 0, none⟩) v1_ M fl ck9 W (h.row_ 2 rfl) (by rw [HTL0.out]; have := Hv0.out; omega) (h.row_ 1 rfl) (by first | (rw [HTL1.out]; have := Hv1.out; omega) | (rw [HML.out]; have := Hv1.out; omega)) (by unfold winnowref19_Check.f; rw [HCK9.out]); (try rw [HTL0.out] at qc); (try rw [HTL1.out] at qc); (try rw [HML.out] at qc); exact qc.mono (fun e w' q => ⟨q.1, h.below q.2⟩))
                        have GD9 : Aside0 (∀ W : World, Env w (⟨g15, #[.int .i64 t, .slice V0 l0.length v0_, .slice (some ⟨gv, 0, none⟩) l1.length v1_, .bool fl], 24⟩ :: ⟨g14, #[.int .i64 t, .slice Y0 l0.length y0, .slice Y1 l1.length y1, .bool fl], 24⟩ :: ⟨g3, #[.int .i64 t, .slice X0 l0.length x0, .slice (some ⟨gx, 0, none⟩) l1.length x1, .bool fl], 24⟩ :: ⟨g1, #[.int .i64 t, .slice A0 l0.length c0, .slice A1 l1.length c1, .bool fl], 24⟩ :: []) (⟨2, k38, 38, .slice (some ⟨gx, 0, none⟩) l1.length x1, M⟩ :: ⟨9, k38, 38, .slice (some ⟨gv, 0, none⟩) (turn l1).length v1_, M⟩ :: ⟨8, k38, 38, .slice V0 (turn l0).length v0_, (turn l0)⟩ :: ⟨1, k38, 38, .slice X0 l0.length x0, (turn l0)⟩ :: ⟨6, k38, 38, .slice Y0 l0.length y0, (turn l0)⟩ :: ⟨7, k38, 38, .slice Y1 l1.length y1, (turn l1)⟩ :: ⟨5, k29, 29, .slice D2 n d2, RL⟩ :: ⟨4, k29, 29, .slice D1 n d1, RL⟩ :: []) W → Calls Tryd.prog 18 #[.agg #[.int .i64 t, .slice X0 l0.length x0, .slice (some ⟨gx, 0, none⟩) l1.length x1, .bool fl]] W (fun e w' => e = .returned (.bool ov9) ∧ Env w (⟨g15, #[.int .i64 t, .slice V0 l0.length v0_, .slice (some ⟨gv, 0, none⟩) l1.length v1_, .bool fl], 24⟩ :: ⟨g14, #[.int .i64 t, .slice Y0 l0.length y0, .slice Y1 l1.length y1, .bool fl], 24⟩ :: ⟨g3, #[.int .i64 t, .slice X0 l0.length x0, .slice (some ⟨gx, 0, none⟩) l1.length x1, .bool fl], 24⟩ :: ⟨g1, #[.int .i64 t, .slice A0 l0.length c0, .slice A1 l1.length c1, .bool fl], 24⟩ :: []) (⟨2, k38, 38, .slice (some ⟨gx, 0, none⟩) l1.length x1, M⟩ :: ⟨9, k38, 38, .slice (some ⟨gv, 0, none⟩) (turn l1).length v1_, M⟩ :: ⟨8, k38, 38, .slice V0 (turn l0).length v0_, (turn l0)⟩ :: ⟨1, k38, 38, .slice X0 l0.length x0, (turn l0)⟩ :: ⟨6, k38, 38, .slice Y0 l0.length y0, (turn l0)⟩ :: ⟨7, k38, 38, .slice Y1 l1.length y1, (turn l1)⟩ :: ⟨5, k29, 29, .slice D2 n d2, RL⟩ :: ⟨4, k29, 29, .slice D1 n d1, RL⟩ :: []) w')) := Aside0.mk (fun W h => by have qc := ledger_Over.calls 70001 t X0 x0 (turn l0) (some ⟨gx, 0, none⟩) x1 M fl ov9 W (h.row_ 3 rfl) (by rw [HTL0.out]; have := Hx0.out; omega) (h.row_ 0 rfl) (by first | (rw [HTL1.out]; have := Hx1.out; omega) | (rw [HML.out]; have := Hx1.out; omega)) (by rw [over_eq 70001 t _ _ fl (by omega), HOV9.out]) (h.tab HT.out); (try rw [HTL0.out] at qc); (try rw [HTL1.out] at qc); (try rw [HML.out] at qc); exact qc.mono (fun e w' q => ⟨q.1, h.below q.2⟩))
                        have GV9 : Aside0 (∀ W : World, Env w (⟨g15, #[.int .i64 t, .slice V0 l0.length v0_, .slice (some ⟨gv, 0, none⟩) l1.length v1_, .bool fl], 24⟩ :: ⟨g14, #[.int .i64 t, .slice Y0 l0.length y0, .slice Y1 l1.length y1, .bool fl], 24⟩ :: ⟨g3, #[.int .i64 t, .slice X0 l0.length x0, .slice (some ⟨gx, 0, none⟩) l1.length x1, .bool fl], 24⟩ :: ⟨g1, #[.int .i64 t, .slice A0 l0.length c0, .slice A1 l1.length c1, .bool fl], 24⟩ :: []) (⟨2, k38, 38, .slice (some ⟨gx, 0, none⟩) l1.length x1, M⟩ :: ⟨9, k38, 38, .slice (some ⟨gv, 0, none⟩) (turn l1).length v1_, M⟩ :: ⟨8, k38, 38, .slice V0 (turn l0).length v0_, (turn l0)⟩ :: ⟨1, k38, 38, .slice X0 l0.length x0, (turn l0)⟩ :: ⟨6, k38, 38, .slice Y0 l0.length y0, (turn l0)⟩ :: ⟨7, k38, 38, .slice Y1 l1.length y1, (turn l1)⟩ :: ⟨5, k29, 29, .slice D2 n d2, RL⟩ :: ⟨4, k29, 29, .slice D1 n d1, RL⟩ :: []) W → Calls Tryd.prog 19 #[.agg #[.int .i64 t, .slice V0 l0.length v0_, .slice (some ⟨gv, 0, none⟩) l1.length v1_, .bool fl]] W (fun e w' => e = .returned (.bool ov9) ∧ Env w (⟨g15, #[.int .i64 t, .slice V0 l0.length v0_, .slice (some ⟨gv, 0, none⟩) l1.length v1_, .bool fl], 24⟩ :: ⟨g14, #[.int .i64 t, .slice Y0 l0.length y0, .slice Y1 l1.length y1, .bool fl], 24⟩ :: ⟨g3, #[.int .i64 t, .slice X0 l0.length x0, .slice (some ⟨gx, 0, none⟩) l1.length x1, .bool fl], 24⟩ :: ⟨g1, #[.int .i64 t, .slice A0 l0.length c0, .slice A1 l1.length c1, .bool fl], 24⟩ :: []) (⟨2, k38, 38, .slice (some ⟨gx, 0, none⟩) l1.length x1, M⟩ :: ⟨9, k38, 38, .slice (some ⟨gv, 0, none⟩) (turn l1).length v1_, M⟩ :: ⟨8, k38, 38, .slice V0 (turn l0).length v0_, (turn l0)⟩ :: ⟨1, k38, 38, .slice X0 l0.length x0, (turn l0)⟩ :: ⟨6, k38, 38, .slice Y0 l0.length y0, (turn l0)⟩ :: ⟨7, k38, 38, .slice Y1 l1.length y1, (turn l1)⟩ :: ⟨5, k29, 29, .slice D2 n d2, RL⟩ :: ⟨4, k29, 29, .slice D1 n d1, RL⟩ :: []) w')) := Aside0.mk (fun W h => by have qc := winnowref19_Over.calls 70001 t V0 v0_ (turn l0) (some ⟨gv, 0, none⟩) v1_ M fl ov9 W (h.row_ 2 rfl) (by rw [HTL0.out]; have := Hv0.out; omega) (h.row_ 1 rfl) (by first | (rw [HTL1.out]; have := Hv1.out; omega) | (rw [HML.out]; have := Hv1.out; omega)) (by rw [refOver 70001 t _ _ fl (by omega), HOV9.out]); (try rw [HTL0.out] at qc); (try rw [HTL1.out] at qc); (try rw [HML.out] at qc); exact qc.mono (fun e w' q => ⟨q.1, h.below q.2⟩))
                        have GR9 : Aside0 (∀ W : World, Env w (⟨g15, #[.int .i64 t, .slice V0 l0.length v0_, .slice (some ⟨gv, 0, none⟩) l1.length v1_, .bool fl], 24⟩ :: ⟨g14, #[.int .i64 t, .slice Y0 l0.length y0, .slice Y1 l1.length y1, .bool fl], 24⟩ :: ⟨g3, #[.int .i64 t, .slice X0 l0.length x0, .slice (some ⟨gx, 0, none⟩) l1.length x1, .bool fl], 24⟩ :: ⟨g1, #[.int .i64 t, .slice A0 l0.length c0, .slice A1 l1.length c1, .bool fl], 24⟩ :: []) (⟨2, k38, 38, .slice (some ⟨gx, 0, none⟩) l1.length x1, M⟩ :: ⟨9, k38, 38, .slice (some ⟨gv, 0, none⟩) (turn l1).length v1_, M⟩ :: ⟨8, k38, 38, .slice V0 (turn l0).length v0_, (turn l0)⟩ :: ⟨1, k38, 38, .slice X0 l0.length x0, (turn l0)⟩ :: ⟨6, k38, 38, .slice Y0 l0.length y0, (turn l0)⟩ :: ⟨7, k38, 38, .slice Y1 l1.length y1, (turn l1)⟩ :: ⟨5, k29, 29, .slice D2 n d2, RL⟩ :: ⟨4, k29, 29, .slice D1 n d1, RL⟩ :: []) W → Calls Tryd.prog 11 #[.agg #[.int .i64 t, .slice X0 l0.length x0, .slice (some ⟨gx, 0, none⟩) l1.length x1, .bool fl]] W (fun e w' => ∃ v, e = .returned v ∧ Kd.R k29 29 w' W.heap.size (fun _ => True) v RL9 ∧ Below W.heap.size W w')) := Aside0.mk (fun W h => by have qc := ledger_Ready.calls 70001 t X0 x0 (turn l0) (some ⟨gx, 0, none⟩) x1 M fl RL9 W (h.row_ 3 rfl) (by rw [HTL0.out]; have := Hx0.out; omega) (h.row_ 0 rfl) (by first | (rw [HTL1.out]; have := Hx1.out; omega) | (rw [HML.out]; have := Hx1.out; omega)) (by rw [ready_eq 70001 t _ _ fl (by omega), HRL9.out]) (h.tab HT.out); (try rw [HTL0.out] at qc); (try rw [HTL1.out] at qc); (try rw [HML.out] at qc); exact qc.mono (fun e w' q => q))
                        have GS9 : Aside0 (∀ W : World, Env w (⟨g15, #[.int .i64 t, .slice V0 l0.length v0_, .slice (some ⟨gv, 0, none⟩) l1.length v1_, .bool fl], 24⟩ :: ⟨g14, #[.int .i64 t, .slice Y0 l0.length y0, .slice Y1 l1.length y1, .bool fl], 24⟩ :: ⟨g3, #[.int .i64 t, .slice X0 l0.length x0, .slice (some ⟨gx, 0, none⟩) l1.length x1, .bool fl], 24⟩ :: ⟨g1, #[.int .i64 t, .slice A0 l0.length c0, .slice A1 l1.length c1, .bool fl], 24⟩ :: []) (⟨2, k38, 38, .slice (some ⟨gx, 0, none⟩) l1.length x1, M⟩ :: ⟨9, k38, 38, .slice (some ⟨gv, 0, none⟩) (turn l1).length v1_, M⟩ :: ⟨8, k38, 38, .slice V0 (turn l0).length v0_, (turn l0)⟩ :: ⟨1, k38, 38, .slice X0 l0.length x0, (turn l0)⟩ :: ⟨6, k38, 38, .slice Y0 l0.length y0, (turn l0)⟩ :: ⟨7, k38, 38, .slice Y1 l1.length y1, (turn l1)⟩ :: ⟨5, k29, 29, .slice D2 n d2, RL⟩ :: ⟨4, k29, 29, .slice D1 n d1, RL⟩ :: []) W → Calls Tryd.prog 14 #[.agg #[.int .i64 t, .slice V0 l0.length v0_, .slice (some ⟨gv, 0, none⟩) l1.length v1_, .bool fl]] W (fun e w' => ∃ v, e = .returned v ∧ Kd.R k29 29 w' W.heap.size (fun _ => True) v RL9 ∧ Below W.heap.size W w')) := Aside0.mk (fun W h => by have qc := winnowref19_Ready.calls 70001 t V0 v0_ (turn l0) (some ⟨gv, 0, none⟩) v1_ M fl RL9 W (h.row_ 2 rfl) (by rw [HTL0.out]; have := Hv0.out; omega) (h.row_ 1 rfl) (by first | (rw [HTL1.out]; have := Hv1.out; omega) | (rw [HML.out]; have := Hv1.out; omega)) (by rw [refReady 70001 t _ _ fl (by omega), HRL9.out]); (try rw [HTL0.out] at qc); (try rw [HTL1.out] at qc); (try rw [HML.out] at qc); exact qc.mono (fun e w' q => q))
                        have GN9 : Aside0 (∀ W : World, Env w (⟨g15, #[.int .i64 t, .slice V0 l0.length v0_, .slice (some ⟨gv, 0, none⟩) l1.length v1_, .bool fl], 24⟩ :: ⟨g14, #[.int .i64 t, .slice Y0 l0.length y0, .slice Y1 l1.length y1, .bool fl], 24⟩ :: ⟨g3, #[.int .i64 t, .slice X0 l0.length x0, .slice (some ⟨gx, 0, none⟩) l1.length x1, .bool fl], 24⟩ :: ⟨g1, #[.int .i64 t, .slice A0 l0.length c0, .slice A1 l1.length c1, .bool fl], 24⟩ :: []) (⟨2, k38, 38, .slice (some ⟨gx, 0, none⟩) l1.length x1, M⟩ :: ⟨9, k38, 38, .slice (some ⟨gv, 0, none⟩) (turn l1).length v1_, M⟩ :: ⟨8, k38, 38, .slice V0 (turn l0).length v0_, (turn l0)⟩ :: ⟨1, k38, 38, .slice X0 l0.length x0, (turn l0)⟩ :: ⟨6, k38, 38, .slice Y0 l0.length y0, (turn l0)⟩ :: ⟨7, k38, 38, .slice Y1 l1.length y1, (turn l1)⟩ :: ⟨5, k29, 29, .slice D2 n d2, RL⟩ :: ⟨4, k29, 29, .slice D1 n d1, RL⟩ :: []) W → Calls Tryd.prog 12 #[.agg #[.int .i64 t, .slice X0 l0.length x0, .slice (some ⟨gx, 0, none⟩) l1.length x1, .bool fl]] W (fun e w' => e = .returned (.tuple #[.int .i64 na9, .int .i64 nb9]) ∧ Env w (⟨g15, #[.int .i64 t, .slice V0 l0.length v0_, .slice (some ⟨gv, 0, none⟩) l1.length v1_, .bool fl], 24⟩ :: ⟨g14, #[.int .i64 t, .slice Y0 l0.length y0, .slice Y1 l1.length y1, .bool fl], 24⟩ :: ⟨g3, #[.int .i64 t, .slice X0 l0.length x0, .slice (some ⟨gx, 0, none⟩) l1.length x1, .bool fl], 24⟩ :: ⟨g1, #[.int .i64 t, .slice A0 l0.length c0, .slice A1 l1.length c1, .bool fl], 24⟩ :: []) (⟨2, k38, 38, .slice (some ⟨gx, 0, none⟩) l1.length x1, M⟩ :: ⟨9, k38, 38, .slice (some ⟨gv, 0, none⟩) (turn l1).length v1_, M⟩ :: ⟨8, k38, 38, .slice V0 (turn l0).length v0_, (turn l0)⟩ :: ⟨1, k38, 38, .slice X0 l0.length x0, (turn l0)⟩ :: ⟨6, k38, 38, .slice Y0 l0.length y0, (turn l0)⟩ :: ⟨7, k38, 38, .slice Y1 l1.length y1, (turn l1)⟩ :: ⟨5, k29, 29, .slice D2 n d2, RL⟩ :: ⟨4, k29, 29, .slice D1 n d1, RL⟩ :: []) w')) := Aside0.mk (fun W h => by have qc := ledger_Begun.calls t X0 x0 (turn l0) (some ⟨gx, 0, none⟩) x1 M fl na9 nb9 W (h.row_ 3 rfl) (by rw [HTL0.out]; have := Hx0.out; omega) (h.row_ 0 rfl) (by first | (rw [HTL1.out]; have := Hx1.out; omega) | (rw [HML.out]; have := Hx1.out; omega)) (by unfold ledger_Begun.f; rw [if_pos ⟨by first | exact HLT0.out | omega, by first | exact HLT1.out | (rw [HML.out]; exact HL1.out)⟩, HBN9.out]) (h.tab HT.out); (try rw [HTL0.out] at qc); (try rw [HTL1.out] at qc); (try rw [HML.out] at qc); exact qc.mono (fun e w' q => ⟨q.1, h.below q.2⟩))
                        have GM9 : Aside0 (∀ W : World, Env w (⟨g15, #[.int .i64 t, .slice V0 l0.length v0_, .slice (some ⟨gv, 0, none⟩) l1.length v1_, .bool fl], 24⟩ :: ⟨g14, #[.int .i64 t, .slice Y0 l0.length y0, .slice Y1 l1.length y1, .bool fl], 24⟩ :: ⟨g3, #[.int .i64 t, .slice X0 l0.length x0, .slice (some ⟨gx, 0, none⟩) l1.length x1, .bool fl], 24⟩ :: ⟨g1, #[.int .i64 t, .slice A0 l0.length c0, .slice A1 l1.length c1, .bool fl], 24⟩ :: []) (⟨2, k38, 38, .slice (some ⟨gx, 0, none⟩) l1.length x1, M⟩ :: ⟨9, k38, 38, .slice (some ⟨gv, 0, none⟩) (turn l1).length v1_, M⟩ :: ⟨8, k38, 38, .slice V0 (turn l0).length v0_, (turn l0)⟩ :: ⟨1, k38, 38, .slice X0 l0.length x0, (turn l0)⟩ :: ⟨6, k38, 38, .slice Y0 l0.length y0, (turn l0)⟩ :: ⟨7, k38, 38, .slice Y1 l1.length y1, (turn l1)⟩ :: ⟨5, k29, 29, .slice D2 n d2, RL⟩ :: ⟨4, k29, 29, .slice D1 n d1, RL⟩ :: []) W → Calls Tryd.prog 13 #[.agg #[.int .i64 t, .slice V0 l0.length v0_, .slice (some ⟨gv, 0, none⟩) l1.length v1_, .bool fl]] W (fun e w' => e = .returned (.tuple #[.int .i64 na9, .int .i64 nb9]) ∧ Env w (⟨g15, #[.int .i64 t, .slice V0 l0.length v0_, .slice (some ⟨gv, 0, none⟩) l1.length v1_, .bool fl], 24⟩ :: ⟨g14, #[.int .i64 t, .slice Y0 l0.length y0, .slice Y1 l1.length y1, .bool fl], 24⟩ :: ⟨g3, #[.int .i64 t, .slice X0 l0.length x0, .slice (some ⟨gx, 0, none⟩) l1.length x1, .bool fl], 24⟩ :: ⟨g1, #[.int .i64 t, .slice A0 l0.length c0, .slice A1 l1.length c1, .bool fl], 24⟩ :: []) (⟨2, k38, 38, .slice (some ⟨gx, 0, none⟩) l1.length x1, M⟩ :: ⟨9, k38, 38, .slice (some ⟨gv, 0, none⟩) (turn l1).length v1_, M⟩ :: ⟨8, k38, 38, .slice V0 (turn l0).length v0_, (turn l0)⟩ :: ⟨1, k38, 38, .slice X0 l0.length x0, (turn l0)⟩ :: ⟨6, k38, 38, .slice Y0 l0.length y0, (turn l0)⟩ :: ⟨7, k38, 38, .slice Y1 l1.length y1, (turn l1)⟩ :: ⟨5, k29, 29, .slice D2 n d2, RL⟩ :: ⟨4, k29, 29, .slice D1 n d1, RL⟩ :: []) w')) := Aside0.mk (fun W h => by have qc := winnowref19_Begun.calls 70001 t V0 v0_ (turn l0) (some ⟨gv, 0, none⟩) v1_ M fl na9 nb9 W (h.row_ 2 rfl) (by rw [HTL0.out]; have := Hv0.out; omega) (h.row_ 1 rfl) (by first | (rw [HTL1.out]; have := Hv1.out; omega) | (rw [HML.out]; have := Hv1.out; omega)) (by rw [refBegun 70001 t _ _ fl (by omega), HBN9.out]); (try rw [HTL0.out] at qc); (try rw [HTL1.out] at qc); (try rw [HML.out] at qc); exact qc.mono (fun e w' q => ⟨q.1, h.below q.2⟩))
                        go_upto_region 24 with fail
                        go_cut [16] (fun s0 wx => s0 = .bool false ∧ Aside0 (Env w (⟨g15, #[.int .i64 t, .slice V0 l0.length v0_, .slice (some ⟨gv, 0, none⟩) l1.length v1_, .bool fl], 24⟩ :: ⟨g14, #[.int .i64 t, .slice Y0 l0.length y0, .slice Y1 l1.length y1, .bool fl], 24⟩ :: ⟨g3, #[.int .i64 t, .slice X0 l0.length x0, .slice (some ⟨gx, 0, none⟩) l1.length x1, .bool fl], 24⟩ :: ⟨g1, #[.int .i64 t, .slice A0 l0.length c0, .slice A1 l1.length c1, .bool fl], 24⟩ :: []) (⟨2, k38, 38, .slice (some ⟨gx, 0, none⟩) l1.length x1, M⟩ :: ⟨9, k38, 38, .slice (some ⟨gv, 0, none⟩) (turn l1).length v1_, M⟩ :: ⟨8, k38, 38, .slice V0 (turn l0).length v0_, (turn l0)⟩ :: ⟨1, k38, 38, .slice X0 l0.length x0, (turn l0)⟩ :: ⟨6, k38, 38, .slice Y0 l0.length y0, (turn l0)⟩ :: ⟨7, k38, 38, .slice Y1 l1.length y1, (turn l1)⟩ :: ⟨5, k29, 29, .slice D2 n d2, RL⟩ :: ⟨4, k29, 29, .slice D1 n d1, RL⟩ :: []) wx))
                        case first =>
                          as_aux_lemma =>
                            have HSX := Aside0.mk (fun (w' : World) (h : Env w (⟨g15, #[.int .i64 t, .slice V0 l0.length v0_, .slice (some ⟨gv, 0, none⟩) l1.length v1_, .bool fl], 24⟩ :: ⟨g14, #[.int .i64 t, .slice Y0 l0.length y0, .slice Y1 l1.length y1, .bool fl], 24⟩ :: ⟨g3, #[.int .i64 t, .slice X0 l0.length x0, .slice (some ⟨gx, 0, none⟩) l1.length x1, .bool fl], 24⟩ :: ⟨g1, #[.int .i64 t, .slice A0 l0.length c0, .slice A1 l1.length c1, .bool fl], 24⟩ :: []) [] w') => (show w'.cell? ⟨g3, 0, none⟩ = some (.int .i64 t) ∧ w'.cell? ⟨g3, 1, none⟩ = some (.slice X0 l0.length x0) ∧ w'.cell? ⟨g3, 2, none⟩ = some (.slice (some ⟨gx, 0, none⟩) l1.length x1) ∧ w'.cell? ⟨g3, 3, none⟩ = some (.bool fl) ∧ w'.cell? ⟨g15, 0, none⟩ = some (.int .i64 t) ∧ w'.cell? ⟨g15, 1, none⟩ = some (.slice V0 l0.length v0_) ∧ w'.cell? ⟨g15, 2, none⟩ = some (.slice (some ⟨gv, 0, none⟩) l1.length v1_) ∧ w'.cell? ⟨g15, 3, none⟩ = some (.bool fl) from ⟨h.at_ 2 0 rfl rfl, h.at_ 2 1 rfl rfl, h.at_ 2 2 rfl rfl, h.at_ 2 3 rfl rfl, h.at_ 0 0 rfl rfl, h.at_ 0 1 rfl rfl, h.at_ 0 2 rfl rfl, h.at_ 0 3 rfl rfl⟩))
                            go_region_held3 (fun w' => w'.cell? ⟨g3, 0, none⟩ = some (.int .i64 t) ∧ w'.cell? ⟨g3, 1, none⟩ = some (.slice X0 l0.length x0) ∧ w'.cell? ⟨g3, 2, none⟩ = some (.slice (some ⟨gx, 0, none⟩) l1.length x1) ∧ w'.cell? ⟨g3, 3, none⟩ = some (.bool fl) ∧ w'.cell? ⟨g15, 0, none⟩ = some (.int .i64 t) ∧ w'.cell? ⟨g15, 1, none⟩ = some (.slice V0 l0.length v0_) ∧ w'.cell? ⟨g15, 2, none⟩ = some (.slice (some ⟨gv, 0, none⟩) l1.length v1_) ∧ w'.cell? ⟨g15, 3, none⟩ = some (.bool fl)) (first
                                | exact HSX.out _ HV.out.bare
                                | exact HSX.out _ HD.out.bare
                                | exact HSX.out _ HJ.out.bare
                                | exact HSX.out _ HC.out.bare
                                | exact HSX.out _ HB.out.bare
                                | exact HSX.out _ HA.out.bare
                                | exact HSX.out _ HE.out.drew.bare
                                | exact HSX.out _ HE.out.bare) (first
                                | ((go_at_call 15; (with_reducible refine (GA9.out _ (by first | exact HB.out | exact HE.out.drew)).mono ?_); rintro e wHA ⟨rfl, hE⟩; have HA := Aside0.mk hE; clear hE))
                                | ((go_at_call 16; (with_reducible refine (GB9.out _ (by first | exact HA.out | exact HE.out.drew)).mono ?_); rintro e wHB ⟨rfl, hE⟩; have HB := Aside0.mk hE; clear hE))
                                | ((go_at_call 11; (with_reducible refine (GR9.out _ HJ.out).mono ?_); rintro e wHC ⟨v0, rfl, s0, hB⟩; have HC := Aside0.mk ((HJ.out).below hB); obtain ⟨KHC, kHC, rfl⟩ := Kd.R_slice s0; clear hB s0))
                                | ((go_at_call 11; (with_reducible refine (GR9.out _ HB.out).mono ?_); rintro e wHC ⟨v0, rfl, s0, hB⟩; have HC := Aside0.mk ((HB.out).below hB); obtain ⟨KHC, kHC, rfl⟩ := Kd.R_slice s0; clear hB s0))
                                | ((go_at_call 11; (with_reducible refine (GR9.out _ HA.out).mono ?_); rintro e wHC ⟨v0, rfl, s0, hB⟩; have HC := Aside0.mk ((HA.out).below hB); obtain ⟨KHC, kHC, rfl⟩ := Kd.R_slice s0; clear hB s0))
                                | ((go_at_call 14; (with_reducible refine (GS9.out _ HC.out).mono ?_); rintro e wHJ ⟨v0, rfl, s0, hB⟩; have HJ := Aside0.mk ((HC.out).below hB); obtain ⟨KHJ, kHJ, rfl⟩ := Kd.R_slice s0; clear hB s0))
                                | ((go_at_call 14; (with_reducible refine (GS9.out _ HB.out).mono ?_); rintro e wHJ ⟨v0, rfl, s0, hB⟩; have HJ := Aside0.mk ((HB.out).below hB); obtain ⟨KHJ, kHJ, rfl⟩ := Kd.R_slice s0; clear hB s0))
                                | ((go_at_call 14; (with_reducible refine (GS9.out _ HA.out).mono ?_); rintro e wHJ ⟨v0, rfl, s0, hB⟩; have HJ := Aside0.mk ((HA.out).below hB); obtain ⟨KHJ, kHJ, rfl⟩ := Kd.R_slice s0; clear hB s0))
                                | ((go_at_call 18; (with_reducible refine (GD9.out _ (by first | exact HV.out | exact HC.out | exact HJ.out)).mono ?_); rintro e wHD ⟨rfl, hE⟩; have HD := Aside0.mk hE; clear hE))
                                | ((go_at_call 19; (with_reducible refine (GV9.out _ (by first | exact HD.out | exact HC.out | exact HJ.out)).mono ?_); rintro e wHV ⟨rfl, hE⟩; have HV := Aside0.mk hE; clear hE)))
                            all_goals (go_wp2_with fail; go_meet; first | exact ⟨by first | rfl | simp, HD⟩ | exact ⟨by first | rfl | simp, HV⟩)
                        case rest =>
                          as_aux_lemma =>
                            clear HE
                            obtain ⟨rfl, HE⟩ := hcut
                            go_upto_region 25 with fail
                            have xg3_0 : wc.cell? ⟨g3, 0, none⟩ = some (.int .i64 t) := HE.out.at_ 2 0 rfl rfl
                            have xg3_1 : wc.cell? ⟨g3, 1, none⟩ = some (.slice X0 l0.length x0) := HE.out.at_ 2 1 rfl rfl
                            have xg3_2 : wc.cell? ⟨g3, 2, none⟩ = some (.slice (some ⟨gx, 0, none⟩) l1.length x1) := HE.out.at_ 2 2 rfl rfl
                            have xg3_3 : wc.cell? ⟨g3, 3, none⟩ = some (.bool fl) := HE.out.at_ 2 3 rfl rfl
                            go_wp2_with fail
                            refine (GN9.out _ HE.out).mono ?_
                            clear xg3_0 xg3_1 xg3_2 xg3_3
                            rintro e w16 ⟨rfl, hE⟩
                            clear HE
                            have HE := Aside0.mk hE
                            clear hE
                            have xg15_0 : w16.cell? ⟨g15, 0, none⟩ = some (.int .i64 t) := HE.out.at_ 0 0 rfl rfl
                            have xg15_1 : w16.cell? ⟨g15, 1, none⟩ = some (.slice V0 l0.length v0_) := HE.out.at_ 0 1 rfl rfl
                            have xg15_2 : w16.cell? ⟨g15, 2, none⟩ = some (.slice (some ⟨gv, 0, none⟩) l1.length v1_) := HE.out.at_ 0 2 rfl rfl
                            have xg15_3 : w16.cell? ⟨g15, 3, none⟩ = some (.bool fl) := HE.out.at_ 0 3 rfl rfl
                            go_wp2_with fail
                            refine (GM9.out _ HE.out).mono ?_
                            clear xg15_0 xg15_1 xg15_2 xg15_3
                            rintro e w17 ⟨rfl, hE⟩
                            clear HE
                            have HE := Aside0.mk hE
                            clear hE
                            clear GA9 GB9 GD9 GV9 GR9 GS9 GN9 GM9
                            go_upto_region 28 with fail
                            have HMS := Aside0.mk (show M[0]'(by rw [HML.out]; exact HPOS.out) = ⟨s.f0, a2, s.f2⟩ by have q := HM.out; subst q; rw [List.getElem_set_self])
                            have HMM := Aside0.mk (show M.set 0 ⟨s.f0, s.f1, s.f2⟩ = turn l1 by rw [← HM.out, List.set_set]; have q := HS.out; have e : (⟨s.f0, s.f1, s.f2⟩ : S38) = (turn l1)[0]'(by rw [HTL1.out]; exact HPOS.out) := q.symm; rw [e, List.set_getElem_self])
                            have HSB := Aside0.mk (HW1.out s (turn_mem_ l1 (turn_eq l1 HL1.out).1 s (by rw [← HS.out]; exact List.getElem_mem _)))
                            have hE : Env w _ (⟨2, k38, 38, .slice (some ⟨gx, 0, none⟩) l1.length x1, M⟩ :: ⟨9, k38, 38, .slice (some ⟨gv, 0, none⟩) (turn l1).length v1_, M⟩ :: ⟨8, k38, 38, .slice V0 (turn l0).length v0_, (turn l0)⟩ :: ⟨1, k38, 38, .slice X0 l0.length x0, (turn l0)⟩ :: ⟨6, k38, 38, .slice Y0 l0.length y0, (turn l0)⟩ :: ⟨7, k38, 38, .slice Y1 l1.length y1, (turn l1)⟩ :: ⟨5, k29, 29, .slice D2 n d2, RL⟩ :: ⟨4, k29, 29, .slice D1 n d1, RL⟩ :: []) _ := HE.out.pick [0, 1, 2, 3, 4, 5, 6, 7] (show ([2, 9, 8, 1, 6, 7, 5, 4] : List Nat).Nodup from by decide)
                            clear HE
                            have HE := Aside0.mk hE
                            clear hE
                            obtain ⟨gx2, cp_, ev, hy, hf, hset⟩ := HE.out.att 0 (by first | (rw [HTL1.out]; exact HPOS.out) | (rw [HML.out]; exact HPOS.out))
                            injection ev with ev1 ev2 ev3
                            injection ev1 with ev1
                            injection ev1 with ev1
                            subst ev1 ev3
                            clear ev2
                            have hset2 := hset s.f1
                            rw [HMS.out] at hset2
                            dsimp only at hset2
                            rw [HMM.out] at hset2
                            have HSET := Aside0.mk hset2
                            clear hset hset2
                            have y1_ : w17.cell? ⟨gx, 1, none⟩ = some (.int .i64 a2) := by have q := hy; rw [HMS.out] at q; exact q
                            have f1_ : w17.frozen? ⟨gx, 1, none⟩ = false := hf
                            clear hy hf
                            have p0_ : decide (0 < l1.length) = true := decide_eq_true HPOS.out
                            have p1_ : (0 < l1.length) = True := eq_true HPOS.out
                            have hw2_ := (show IntKind.i64.wrap (a2 - 2) = s.f1 from (i64_w _).trans (by rw [← HA2.out]; have := HSB.out; unfold wrap64; omega))
                            have xg3_0 : w17.cell? ⟨g3, 0, none⟩ = some (.int .i64 t) := HE.out.at_ 2 0 rfl rfl
                            have xg3_1 : w17.cell? ⟨g3, 1, none⟩ = some (.slice X0 l0.length x0) := HE.out.at_ 2 1 rfl rfl
                            have xg3_2 : w17.cell? ⟨g3, 2, none⟩ = some (.slice (some ⟨gx, 0, none⟩) l1.length x1) := HE.out.at_ 2 2 rfl rfl
                            have xg3_3 : w17.cell? ⟨g3, 3, none⟩ = some (.bool fl) := HE.out.at_ 2 3 rfl rfl
                            go_region
                            go_upto_region 29 with fail
                            have hE : Env w _ _ ((w17.setCell ⟨gx, 1, none⟩ (.int .i64 s.f1)).drew) := HSET.out.drew
                            generalize (w17.setCell ⟨gx, 1, none⟩ (.int .i64 s.f1)).drew = w18 at hE ⊢
                            clear xg3_0 xg3_1 xg3_2 xg3_3
                            clear HSET y1_ f1_ p0_ p1_ hw2_ HE
                            have HE := Aside0.mk hE
                            clear hE
                            go_wp2_with fail
                            go_meet
                            exact ⟨(HE.out.pick [3, 0, 4, 5, 6, 7] (show ([1, 2, 6, 7, 5, 4] : List Nat).Nodup from by decide)).sub (.cons _ (List.Sublist.refl _)) (List.Sublist.refl _)⟩
                  case rest =>
                    as_aux_lemma =>
                      clear HE
                      have HE := hcut
                      have HML := HTL1
                      obtain ⟨RL8, hRL⟩ : ∃ r, readyP t (turn l0) (turn l1) fl = r := ⟨_, rfl⟩
                      obtain ⟨ck8, hck⟩ : ∃ r, checkP t (turn l0) (turn l1) fl = r := ⟨_, rfl⟩
                      obtain ⟨ov8, hov⟩ : ∃ r, overP t (turn l0) (turn l1) fl = r := ⟨_, rfl⟩
                      obtain ⟨⟨na8, nb8⟩, hbn⟩ : ∃ r, begunP t (turn l0) (turn l1) fl = r := ⟨_, rfl⟩
                      have HRL8 := Aside0.mk hRL
                      have HCK8 := Aside0.mk hck
                      have HOV8 := Aside0.mk hov
                      have HBN8 := Aside0.mk hbn
                      have HRN8 := Aside0.mk (show RL8.length ≤ 70000 by rw [← hRL]; exact readyP_len t (turn l0) (turn l1) fl)
                      clear hRL hck hov hbn
                      have GA8 : Aside0 (∀ W : World, Env w (⟨g14, #[.int .i64 t, .slice Y0 l0.length y0, .slice Y1 l1.length y1, .bool fl], 24⟩ :: ⟨g3, #[.int .i64 t, .slice X0 l0.length x0, .slice X1 l1.length x1, .bool fl], 24⟩ :: ⟨g1, #[.int .i64 t, .slice A0 l0.length c0, .slice A1 l1.length c1, .bool fl], 24⟩ :: []) (⟨1, k38, 38, .slice X0 l0.length x0, (turn l0)⟩ :: ⟨2, k38, 38, .slice X1 l1.length x1, (turn l1)⟩ :: ⟨6, k38, 38, .slice Y0 l0.length y0, (turn l0)⟩ :: ⟨7, k38, 38, .slice Y1 l1.length y1, (turn l1)⟩ :: ⟨5, k29, 29, .slice D2 n d2, RL⟩ :: ⟨4, k29, 29, .slice D1 n d1, RL⟩ :: []) W → Calls Tryd.prog 15 #[.agg #[.int .i64 t, .slice X0 l0.length x0, .slice X1 l1.length x1, .bool fl]] W (fun e w' => e = .returned (.int .i64 ck8) ∧ Env w (⟨g14, #[.int .i64 t, .slice Y0 l0.length y0, .slice Y1 l1.length y1, .bool fl], 24⟩ :: ⟨g3, #[.int .i64 t, .slice X0 l0.length x0, .slice X1 l1.length x1, .bool fl], 24⟩ :: ⟨g1, #[.int .i64 t, .slice A0 l0.length c0, .slice A1 l1.length c1, .bool fl], 24⟩ :: []) (⟨1, k38, 38, .slice X0 l0.length x0, (turn l0)⟩ :: ⟨2, k38, 38, .slice X1 l1.length x1, (turn l1)⟩ :: ⟨6, k38, 38, .slice Y0 l0.length y0, (turn l0)⟩ :: ⟨7, k38, 38, .slice Y1 l1.length y1, (turn l1)⟩ :: ⟨5, k29, 29, .slice D2 n d2, RL⟩ :: ⟨4, k29, 29, .slice D1 n d1, RL⟩ :: []) w')) := Aside0.mk (fun W h => by have qc := ledger_Check.calls t X0 x0 (turn l0) X1 x1 (turn l1) fl ck8 W (h.row_ 0 rfl) (by rw [HTL0.out]; have := Hx0.out; omega) (h.row_ 1 rfl) (by first | (rw [HTL1.out]; have := Hx1.out; omega) | (rw [HML.out]; have := Hx1.out; omega)) (by unfold ledger_Check.f; rw [HCK8.out]) (h.tab HT.out); (try rw [HTL0.out] at qc); (try rw [HTL1.out] at qc); (try rw [HML.out] at qc); exact qc.mono (fun e w' q => ⟨q.1, h.below q.2⟩))
                      have GB8 : Aside0 (∀ W : World, Env w (⟨g14, #[.int .i64 t, .slice Y0 l0.length y0, .slice Y1 l1.length y1, .bool fl], 24⟩ :: ⟨g3, #[.int .i64 t, .slice X0 l0.length x0, .slice X1 l1.length x1, .bool fl], 24⟩ :: ⟨g1, #[.int .i64 t, .slice A0 l0.length c0, .slice A1 l1.length c1, .bool fl], 24⟩ :: []) (⟨1, k38, 38, .slice X0 l0.length x0, (turn l0)⟩ :: ⟨2, k38, 38, .slice X1 l1.length x1, (turn l1)⟩ :: ⟨6, k38, 38, .slice Y0 l0.length y0, (turn l0)⟩ :: ⟨7, k38, 38, .slice Y1 l1.length y1, (turn l1)⟩ :: ⟨5, k29, 29, .slice D2 n d2, RL⟩ :: ⟨4, k29, 29, .slice D1 n d1, RL⟩ :: []) W → Calls Tryd.prog 16 #[.agg #[.int .i64 t, .slice Y0 l0.length y0, .slice Y1 l1.length y1, .bool fl]] W (fun e w' => e = .returned (.int .i64 ck8) ∧ Env w (⟨g14, #[.int .i64 t, .slice Y0 l0.length y0, .slice Y1 l1.length y1, .bool fl], 24⟩ :: ⟨g3, #[.int .i64 t, .slice X0 l0.length x0, .slice X1 l1.length x1, .bool fl], 24⟩ :: ⟨g1, #[.int .i64 t, .slice A0 l0.length c0, .slice A1 l1.length c1, .bool fl], 24⟩ :: []) (⟨1, k38, 38, .slice X0 l0.length x0, (turn l0)⟩ :: ⟨2, k38, 38, .slice X1 l1.length x1, (turn l1)⟩ :: ⟨6, k38, 38, .slice Y0 l0.length y0, (turn l0)⟩ :: ⟨7, k38, 38, .slice Y1 l1.length y1, (turn l1)⟩ :: ⟨5, k29, 29, .slice D2 n d2, RL⟩ :: ⟨4, k29, 29, .slice D1 n d1, RL⟩ :: []) w')) := Aside0.mk (fun W h => by have qc := winnowref19_Check.calls t Y0 y0 (turn l0) Y1 y1 (turn l1) fl ck8 W (h.row_ 2 rfl) (by rw [HTL0.out]; have := Hy0.out; omega) (h.row_ 3 rfl) (by first | (rw [HTL1.out]; have := Hy1.out; omega) | (rw [HML.out]; have := Hy1.out; omega)) (by unfold winnowref19_Check.f; rw [HCK8.out]); (try rw [HTL0.out] at qc); (try rw [HTL1.out] at qc); (try rw [HML.out] at qc); exact qc.mono (fun e w' q => ⟨q.1, h.below q.2⟩))
                      have GD8 : Aside0 (∀ W : World, Env w (⟨g14, #[.int .i64 t, .slice Y0 l0.length y0, .slice Y1 l1.length y1, .bool fl], 24⟩ :: ⟨g3, #[.int .i64 t, .slice X0 l0.length x0, .slice X1 l1.length x1, .bool fl], 24⟩ :: ⟨g1, #[.int .i64 t, .slice A0 l0.length c0, .slice A1 l1.length c1, .bool fl], 24⟩ :: []) (⟨1, k38, 38, .slice X0 l0.length x0, (turn l0)⟩ :: ⟨2, k38, 38, .slice X1 l1.length x1, (turn l1)⟩ :: ⟨6, k38, 38, .slice Y0 l0.length y0, (turn l0)⟩ :: ⟨7, k38, 38, .slice Y1 l1.length y1, (turn l1)⟩ :: ⟨5, k29, 29, .slice D2 n d2, RL⟩ :: ⟨4, k29, 29, .slice D1 n d1, RL⟩ :: []) W → Calls Tryd.prog 18 #[.agg #[.int .i64 t, .slice X0 l0.length x0, .slice X1 l1.length x1, .bool fl]] W (fun e w' => e = .returned (.bool ov8) ∧ Env w (⟨g14, #[.int .i64 t, .slice Y0 l0.length y0, .slice Y1 l1.length y1, .bool fl], 24⟩ :: ⟨g3, #[.int .i64 t, .slice X0 l0.length x0, .slice X1 l1.length x1, .bool fl], 24⟩ :: ⟨g1, #[.int .i64 t, .slice A0 l0.length c0, .slice A1 l1.length c1, .bool fl], 24⟩ :: []) (⟨1, k38, 38, .slice X0 l0.length x0, (turn l0)⟩ :: ⟨2, k38, 38, .slice X1 l1.length x1, (turn l1)⟩ :: ⟨6, k38, 38, .slice Y0 l0.length y0, (turn l0)⟩ :: ⟨7, k38, 38, .slice Y1 l1.length y1, (turn l1)⟩ :: ⟨5, k29, 29, .slice D2 n d2, RL⟩ :: ⟨4, k29, 29, .slice D1 n d1, RL⟩ :: []) w')) := Aside0.mk (fun W h => by have qc := ledger_Over.calls 70001 t X0 x0 (turn l0) X1 x1 (turn l1) fl ov8 W (h.row_ 0 rfl) (by rw [HTL0.out]; have := Hx0.out; omega) (h.row_ 1 rfl) (by first | (rw [HTL1.out]; have := Hx1.out; omega) | (rw [HML.out]; have := Hx1.out; omega)) (by rw [over_eq 70001 t _ _ fl (by omega), HOV8.out]) (h.tab HT.out); (try rw [HTL0.out] at qc); (try rw [HTL1.out] at qc); (try rw [HML.out] at qc); exact qc.mono (fun e w' q => ⟨q.1, h.below q.2⟩))
                      have GV8 : Aside0 (∀ W : World, Env w (⟨g14, #[.int .i64 t, .slice Y0 l0.length y0, .slice Y1 l1.length y1, .bool fl], 24⟩ :: ⟨g3, #[.int .i64 t, .slice X0 l0.length x0, .slice X1 l1.length x1, .bool fl], 24⟩ :: ⟨g1, #[.int .i64 t, .slice A0 l0.length c0, .slice A1 l1.length c1, .bool fl], 24⟩ :: []) (⟨1, k38, 38, .slice X0 l0.length x0, (turn l0)⟩ :: ⟨2, k38, 38, .slice X1 l1.length x1, (turn l1)⟩ :: ⟨6, k38, 38, .slice Y0 l0.length y0, (turn l0)⟩ :: ⟨7, k38, 38, .slice Y1 l1.length y1, (turn l1)⟩ :: ⟨5, k29, 29, .slice D2 n d2, RL⟩ :: ⟨4, k29, 29, .slice D1 n d1, RL⟩ :: []) W → Calls Tryd.prog 19 #[.agg #[.int .i64 t, .slice Y0 l0.length y0, .slice Y1 l1.length y1, .bool fl]] W (fun e w' => e = .returned (.bool ov8) ∧ Env w (⟨g14, #[.int .i64 t, .slice Y0 l0.length y0, .slice Y1 l1.length y1, .bool fl], 24⟩ :: ⟨g3, #[.int .i64 t, .slice X0 l0.length x0, .slice X1 l1.length x1, .bool fl], 24⟩ :: ⟨g1, #[.int .i64 t, .slice A0 l0.length c0, .slice A1 l1.length c1, .bool fl], 24⟩ :: []) (⟨1, k38, 38, .slice X0 l0.length x0, (turn l0)⟩ :: ⟨2, k38, 38, .slice X1 l1.length x1, (turn l1)⟩ :: ⟨6, k38, 38, .slice Y0 l0.length y0, (turn l0)⟩ :: ⟨7, k38, 38, .slice Y1 l1.length y1, (turn l1)⟩ :: ⟨5, k29, 29, .slice D2 n d2, RL⟩ :: ⟨4, k29, 29, .slice D1 n d1, RL⟩ :: []) w')) := Aside0.mk (fun W h => by have qc := winnowref19_Over.calls 70001 t Y0 y0 (turn l0) Y1 y1 (turn l1) fl ov8 W (h.row_ 2 rfl) (by rw [HTL0.out]; have := Hy0.out; omega) (h.row_ 3 rfl) (by first | (rw [HTL1.out]; have := Hy1.out; omega) | (rw [HML.out]; have := Hy1.out; omega)) (by rw [refOver 70001 t _ _ fl (by omega), HOV8.out]); (try rw [HTL0.out] at qc); (try rw [HTL1.out] at qc); (try rw [HML.out] at qc); exact qc.mono (fun e w' q => ⟨q.1, h.below q.2⟩))
                      have GR8 : Aside0 (∀ W : World, Env w (⟨g14, #[.int .i64 t, .slice Y0 l0.length y0, .slice Y1 l1.length y1, .bool fl], 24⟩ :: ⟨g3, #[.int .i64 t, .slice X0 l0.length x0, .slice X1 l1.length x1, .bool fl], 24⟩ :: ⟨g1, #[.int .i64 t, .slice A0 l0.length c0, .slice A1 l1.length c1, .bool fl], 24⟩ :: []) (⟨1, k38, 38, .slice X0 l0.length x0, (turn l0)⟩ :: ⟨2, k38, 38, .slice X1 l1.length x1, (turn l1)⟩ :: ⟨6, k38, 38, .slice Y0 l0.length y0, (turn l0)⟩ :: ⟨7, k38, 38, .slice Y1 l1.length y1, (turn l1)⟩ :: ⟨5, k29, 29, .slice D2 n d2, RL⟩ :: ⟨4, k29, 29, .slice D1 n d1, RL⟩ :: []) W → Calls Tryd.prog 11 #[.agg #[.int .i64 t, .slice X0 l0.length x0, .slice X1 l1.length x1, .bool fl]] W (fun e w' => ∃ v, e = .returned v ∧ Kd.R k29 29 w' W.heap.size (fun _ => True) v RL8 ∧ Below W.heap.size W w')) := Aside0.mk (fun W h => by have qc := ledger_Ready.calls 70001 t X0 x0 (turn l0) X1 x1 (turn l1) fl RL8 W (h.row_ 0 rfl) (by rw [HTL0.out]; have := Hx0.out; omega) (h.row_ 1 rfl) (by first | (rw [HTL1.out]; have := Hx1.out; omega) | (rw [HML.out]; have := Hx1.out; omega)) (by rw [ready_eq 70001 t _ _ fl (by omega), HRL8.out]) (h.tab HT.out); (try rw [HTL0.out] at qc); (try rw [HTL1.out] at qc); (try rw [HML.out] at qc); exact qc.mono (fun e w' q => q))
                      have GS8 : Aside0 (∀ W : World, Env w (⟨g14, #[.int .i64 t, .slice Y0 l0.length y0, .slice Y1 l1.length y1, .bool fl], 24⟩ :: ⟨g3, #[.int .i64 t, .slice X0 l0.length x0, .slice X1 l1.length x1, .bool fl], 24⟩ :: ⟨g1, #[.int .i64 t, .slice A0 l0.length c0, .slice A1 l1.length c1, .bool fl], 24⟩ :: []) (⟨1, k38, 38, .slice X0 l0.length x0, (turn l0)⟩ :: ⟨2, k38, 38, .slice X1 l1.length x1, (turn l1)⟩ :: ⟨6, k38, 38, .slice Y0 l0.length y0, (turn l0)⟩ :: ⟨7, k38, 38, .slice Y1 l1.length y1, (turn l1)⟩ :: ⟨5, k29, 29, .slice D2 n d2, RL⟩ :: ⟨4, k29, 29, .slice D1 n d1, RL⟩ :: []) W → Calls Tryd.prog 14 #[.agg #[.int .i64 t, .slice Y0 l0.length y0, .slice Y1 l1.length y1, .bool fl]] W (fun e w' => ∃ v, e = .returned v ∧ Kd.R k29 29 w' W.heap.size (fun _ => True) v RL8 ∧ Below W.heap.size W w')) := Aside0.mk (fun W h => by have qc := winnowref19_Ready.calls 70001 t Y0 y0 (turn l0) Y1 y1 (turn l1) fl RL8 W (h.row_ 2 rfl) (by rw [HTL0.out]; have := Hy0.out; omega) (h.row_ 3 rfl) (by first | (rw [HTL1.out]; have := Hy1.out; omega) | (rw [HML.out]; have := Hy1.out; omega)) (by rw [refReady 70001 t _ _ fl (by omega), HRL8.out]); (try rw [HTL0.out] at qc); (try rw [HTL1.out] at qc); (try rw [HML.out] at qc); exact qc.mono (fun e w' q => q))
                      have GN8 : Aside0 (∀ W : World, Env w (⟨g14, #[.int .i64 t, .slice Y0 l0.length y0, .slice Y1 l1.length y1, .bool fl], 24⟩ :: ⟨g3, #[.int .i64 t, .slice X0 l0.length x0, .slice X1 l1.length x1, .bool fl], 24⟩ :: ⟨g1, #[.int .i64 t, .slice A0 l0.length c0, .slice A1 l1.length c1, .bool fl], 24⟩ :: []) (⟨1, k38, 38, .slice X0 l0.length x0, (turn l0)⟩ :: ⟨2, k38, 38, .slice X1 l1.length x1, (turn l1)⟩ :: ⟨6, k38, 38, .slice Y0 l0.length y0, (turn l0)⟩ :: ⟨7, k38, 38, .slice Y1 l1.length y1, (turn l1)⟩ :: ⟨5, k29, 29, .slice D2 n d2, RL⟩ :: ⟨4, k29, 29, .slice D1 n d1, RL⟩ :: []) W → Calls Tryd.prog 12 #[.agg #[.int .i64 t, .slice X0 l0.length x0, .slice X1 l1.length x1, .bool fl]] W (fun e w' => e = .returned (.tuple #[.int .i64 na8, .int .i64 nb8]) ∧ Env w (⟨g14, #[.int .i64 t, .slice Y0 l0.length y0, .slice Y1 l1.length y1, .bool fl], 24⟩ :: ⟨g3, #[.int .i64 t, .slice X0 l0.length x0, .slice X1 l1.length x1, .bool fl], 24⟩ :: ⟨g1, #[.int .i64 t, .slice A0 l0.length c0, .slice A1 l1.length c1, .bool fl], 24⟩ :: []) (⟨1, k38, 38, .slice X0 l0.length x0, (turn l0)⟩ :: ⟨2, k38, 38, .slice X1 l1.length x1, (turn l1)⟩ :: ⟨6, k38, 38, .slice Y0 l0.length y0, (turn l0)⟩ :: ⟨7, k38, 38, .slice Y1 l1.length y1, (turn l1)⟩ :: ⟨5, k29, 29, .slice D2 n d2, RL⟩ :: ⟨4, k29, 29, .slice D1 n d1, RL⟩ :: []) w')) := Aside0.mk (fun W h => by have qc := ledger_Begun.calls t X0 x0 (turn l0) X1 x1 (turn l1) fl na8 nb8 W (h.row_ 0 rfl) (by rw [HTL0.out]; have := Hx0.out; omega) (h.row_ 1 rfl) (by first | (rw [HTL1.out]; have := Hx1.out; omega) | (rw [HML.out]; have := Hx1.out; omega)) (by unfold ledger_Begun.f; rw [if_pos ⟨by first | exact HLT0.out | omega, by first | exact HLT1.out | (rw [HML.out]; exact HL1.out)⟩, HBN8.out]) (h.tab HT.out); (try rw [HTL0.out] at qc); (try rw [HTL1.out] at qc); (try rw [HML.out] at qc); exact qc.mono (fun e w' q => ⟨q.1, h.below q.2⟩))
                      have GM8 : Aside0 (∀ W : World, Env w (⟨g14, #[.int .i64 t, .slice Y0 l0.length y0, .slice Y1 l1.length y1, .bool fl], 24⟩ :: ⟨g3, #[.int .i64 t, .slice X0 l0.length x0, .slice X1 l1.length x1, .bool fl], 24⟩ :: ⟨g1, #[.int .i64 t, .slice A0 l0.length c0, .slice A1 l1.length c1, .bool fl], 24⟩ :: []) (⟨1, k38, 38, .slice X0 l0.length x0, (turn l0)⟩ :: ⟨2, k38, 38, .slice X1 l1.length x1, (turn l1)⟩ :: ⟨6, k38, 38, .slice Y0 l0.length y0, (turn l0)⟩ :: ⟨7, k38, 38, .slice Y1 l1.length y1, (turn l1)⟩ :: ⟨5, k29, 29, .slice D2 n d2, RL⟩ :: ⟨4, k29, 29, .slice D1 n d1, RL⟩ :: []) W → Calls Tryd.prog 13 #[.agg #[.int .i64 t, .slice Y0 l0.length y0, .slice Y1 l1.length y1, .bool fl]] W (fun e w' => e = .returned (.tuple #[.int .i64 na8, .int .i64 nb8]) ∧ Env w (⟨g14, #[.int .i64 t, .slice Y0 l0.length y0, .slice Y1 l1.length y1, .bool fl], 24⟩ :: ⟨g3, #[.int .i64 t, .slice X0 l0.length x0, .slice X1 l1.length x1, .bool fl], 24⟩ :: ⟨g1, #[.int .i64 t, .slice A0 l0.length c0, .slice A1 l1.length c1, .bool fl], 24⟩ :: []) (⟨1, k38, 38, .slice X0 l0.length x0, (turn l0)⟩ :: ⟨2, k38, 38, .slice X1 l1.length x1, (turn l1)⟩ :: ⟨6, k38, 38, .slice Y0 l0.length y0, (turn l0)⟩ :: ⟨7, k38, 38, .slice Y1 l1.length y1, (turn l1)⟩ :: ⟨5, k29, 29, .slice D2 n d2, RL⟩ :: ⟨4, k29, 29, .slice D1 n d1, RL⟩ :: []) w')) := Aside0.mk (fun W h => by have qc := winnowref19_Begun.calls 70001 t Y0 y0 (turn l0) Y1 y1 (turn l1) fl na8 nb8 W (h.row_ 2 rfl) (by rw [HTL0.out]; have := Hy0.out; omega) (h.row_ 3 rfl) (by first | (rw [HTL1.out]; have := Hy1.out; omega) | (rw [HML.out]; have := Hy1.out; omega)) (by rw [refBegun 70001 t _ _ fl (by omega), HBN8.out]); (try rw [HTL0.out] at qc); (try rw [HTL1.out] at qc); (try rw [HML.out] at qc); exact qc.mono (fun e w' q => ⟨q.1, h.below q.2⟩))
                      go_upto_region 31 with fail
                      have xg3_0 : wc.cell? ⟨g3, 0, none⟩ = some (.int .i64 t) := HE.out.at_ 1 0 rfl rfl
                      have xg3_1 : wc.cell? ⟨g3, 1, none⟩ = some (.slice X0 l0.length x0) := HE.out.at_ 1 1 rfl rfl
                      have xg3_2 : wc.cell? ⟨g3, 2, none⟩ = some (.slice X1 l1.length x1) := HE.out.at_ 1 2 rfl rfl
                      have xg3_3 : wc.cell? ⟨g3, 3, none⟩ = some (.bool fl) := HE.out.at_ 1 3 rfl rfl
                      go_wp2_with fail
                      refine (GN8.out _ HE.out).mono ?_
                      clear xg3_0 xg3_1 xg3_2 xg3_3
                      rintro e w19 ⟨rfl, hE⟩
                      clear HE
                      have HE := Aside0.mk hE
                      clear hE
                      have xg14_0 : w19.cell? ⟨g14, 0, none⟩ = some (.int .i64 t) := HE.out.at_ 0 0 rfl rfl
                      have xg14_1 : w19.cell? ⟨g14, 1, none⟩ = some (.slice Y0 l0.length y0) := HE.out.at_ 0 1 rfl rfl
                      have xg14_2 : w19.cell? ⟨g14, 2, none⟩ = some (.slice Y1 l1.length y1) := HE.out.at_ 0 2 rfl rfl
                      have xg14_3 : w19.cell? ⟨g14, 3, none⟩ = some (.bool fl) := HE.out.at_ 0 3 rfl rfl
                      go_wp2_with fail
                      refine (GM8.out _ HE.out).mono ?_
                      clear xg14_0 xg14_1 xg14_2 xg14_3
                      rintro e w20 ⟨rfl, hE⟩
                      clear HE
                      have HE := Aside0.mk hE
                      clear hE
                      go_upto_region 33 with fail
                      have HSX := Aside0.mk (fun (w' : World) (h : Env w (⟨g14, #[.int .i64 t, .slice Y0 l0.length y0, .slice Y1 l1.length y1, .bool fl], 24⟩ :: ⟨g3, #[.int .i64 t, .slice X0 l0.length x0, .slice X1 l1.length x1, .bool fl], 24⟩ :: ⟨g1, #[.int .i64 t, .slice A0 l0.length c0, .slice A1 l1.length c1, .bool fl], 24⟩ :: []) [] w') => (show w'.cell? ⟨g3, 0, none⟩ = some (.int .i64 t) ∧ w'.cell? ⟨g3, 1, none⟩ = some (.slice X0 l0.length x0) ∧ w'.cell? ⟨g3, 2, none⟩ = some (.slice X1 l1.length x1) ∧ w'.cell? ⟨g3, 3, none⟩ = some (.bool fl) ∧ w'.cell? ⟨g14, 0, none⟩ = some (.int .i64 t) ∧ w'.cell? ⟨g14, 1, none⟩ = some (.slice Y0 l0.length y0) ∧ w'.cell? ⟨g14, 2, none⟩ = some (.slice Y1 l1.length y1) ∧ w'.cell? ⟨g14, 3, none⟩ = some (.bool fl) from ⟨h.at_ 1 0 rfl rfl, h.at_ 1 1 rfl rfl, h.at_ 1 2 rfl rfl, h.at_ 1 3 rfl rfl, h.at_ 0 0 rfl rfl, h.at_ 0 1 rfl rfl, h.at_ 0 2 rfl rfl, h.at_ 0 3 rfl rfl⟩))
                      have HSY := Aside0.mk (fun (A : Option Addr) (p : Nat) (A' : Option Addr) (p' : Nat) (W : World) (a : Kd.C k29 W A RL8.length RL8) (b : RL8.length ≤ p) (a' : Kd.C k29 W A' RL8.length RL8) (b' : RL8.length ≤ p') => winnowlaw19_sameTasks.calls 70001 A p RL8 A' p' RL8 true W a b a' b' (sameT RL8 (by have := HRN8.out; omega) _ (by have := HRN8.out; omega)))
                      go_region_held3 (fun w' => w'.cell? ⟨g3, 0, none⟩ = some (.int .i64 t) ∧ w'.cell? ⟨g3, 1, none⟩ = some (.slice X0 l0.length x0) ∧ w'.cell? ⟨g3, 2, none⟩ = some (.slice X1 l1.length x1) ∧ w'.cell? ⟨g3, 3, none⟩ = some (.bool fl) ∧ w'.cell? ⟨g14, 0, none⟩ = some (.int .i64 t) ∧ w'.cell? ⟨g14, 1, none⟩ = some (.slice Y0 l0.length y0) ∧ w'.cell? ⟨g14, 2, none⟩ = some (.slice Y1 l1.length y1) ∧ w'.cell? ⟨g14, 3, none⟩ = some (.bool fl)) (first
                          | exact HSX.out _ HZ.out.bare
                          | exact HSX.out _ HB.out.bare
                          | exact HSX.out _ HA.out.bare
                          | exact HSX.out _ HV.out.bare
                          | exact HSX.out _ HD.out.bare
                          | exact HSX.out _ HL.out.bare
                          | exact HSX.out _ HK.out.bare
                          | exact HSX.out _ HJ.out.bare
                          | exact HSX.out _ HC.out.bare
                          | exact HSX.out _ HE.out.drew.bare
                          | exact HSX.out _ HE.out.bare) (first
                          | ((go_at_call 11; (with_reducible refine (GR8.out _ HE.out.drew).mono ?_); rintro e wHC ⟨v0, rfl, s0, hB⟩; obtain ⟨K10, k10, rfl⟩ := Kd.R_slice s0; have HC := Aside0.mk ((HE.out.drew).row1 hB s0 10 (show ([10, 1, 2, 6, 7, 5, 4] : List Nat).Nodup from by decide) (by decide)); clear hB s0))
                          | ((go_at_call 14; (with_reducible refine (GS8.out _ HE.out.drew).mono ?_); rintro e wHJ ⟨v0, rfl, s0, hB⟩; obtain ⟨K11, k11, rfl⟩ := Kd.R_slice s0; have HJ := Aside0.mk ((HE.out.drew).row1 hB s0 11 (show ([11, 1, 2, 6, 7, 5, 4] : List Nat).Nodup from by decide) (by decide)); clear hB s0))
                          | ((go_at_call 11; (with_reducible refine (GR8.out _ (HJ.out.lose1)).mono ?_); rintro e wHK ⟨v0, rfl, s0, hB⟩; obtain ⟨K10, k10, rfl⟩ := Kd.R_slice s0; have HK := Aside0.mk ((HJ.out).row1 hB s0 10 (show ([10, 11, 1, 2, 6, 7, 5, 4] : List Nat).Nodup from by decide) (by decide)); clear hB s0))
                          | ((go_at_call 14; (with_reducible refine (GS8.out _ (HC.out.lose1)).mono ?_); rintro e wHK ⟨v0, rfl, s0, hB⟩; obtain ⟨K11, k11, rfl⟩ := Kd.R_slice s0; have HK := Aside0.mk ((HC.out).row1 hB s0 11 (show ([11, 10, 1, 2, 6, 7, 5, 4] : List Nat).Nodup from by decide) (by decide)); clear hB s0))
                          | ((go_at_call 17; (with_reducible refine (HSY.out K10 k10 K11 k11 _ (HK.out.row_ 0 rfl) (HK.out.cap_ 0 rfl).2 (HK.out.row_ 1 rfl) (HK.out.cap_ 1 rfl).2).mono ?_); rintro e wHL ⟨rfl, hB⟩; have HL := Aside0.mk ((HK.out.below hB.below).lose1.lose1); clear hB))
                          | ((go_at_call 17; (with_reducible refine (HSY.out K10 k10 K11 k11 _ (HK.out.row_ 1 rfl) (HK.out.cap_ 1 rfl).2 (HK.out.row_ 0 rfl) (HK.out.cap_ 0 rfl).2).mono ?_); rintro e wHL ⟨rfl, hB⟩; have HL := Aside0.mk ((HK.out.below hB.below).lose1.lose1); clear hB))
                          | ((go_at_call 18; (with_reducible refine (GD8.out _ (by first | exact HV.out | exact HL.out)).mono ?_); rintro e wHD ⟨rfl, hE⟩; have HD := Aside0.mk hE; clear hE))
                          | ((go_at_call 19; (with_reducible refine (GV8.out _ (by first | exact HD.out | exact HL.out)).mono ?_); rintro e wHV ⟨rfl, hE⟩; have HV := Aside0.mk hE; clear hE))
                          | ((go_at_call 15; (with_reducible refine (GA8.out _ (by first | exact HB.out | exact HV.out | exact HD.out)).mono ?_); rintro e wHA ⟨rfl, hE⟩; have HA := Aside0.mk hE; clear hE))
                          | ((go_at_call 16; (with_reducible refine (GB8.out _ (by first | exact HA.out | exact HV.out | exact HD.out)).mono ?_); rintro e wHB ⟨rfl, hE⟩; have HB := Aside0.mk hE; clear hE))
                          | ((go_at_call 17; (with_reducible refine (HST.out D1 d1 D2 d2 _ (HA.out.row_ 5 rfl) (HA.out.cap_ 5 rfl).2 (HA.out.row_ 4 rfl) (HA.out.cap_ 4 rfl).2).mono ?_); rintro e wHZ ⟨rfl, hB⟩; have HZ := Aside0.mk (HA.out.below hB.below); clear hB))
                          | ((go_at_call 17; (with_reducible refine (HST.out D1 d1 D2 d2 _ (HB.out.row_ 5 rfl) (HB.out.cap_ 5 rfl).2 (HB.out.row_ 4 rfl) (HB.out.cap_ 4 rfl).2).mono ?_); rintro e wHZ ⟨rfl, hB⟩; have HZ := Aside0.mk (HB.out.below hB.below); clear hB)))
                      all_goals (go_wp2_with fail; go_ret; exact ⟨by first | rfl | simp, HZ.out.out⟩)
/-- The law as a function with a contract: true of whatever is not too long, of numbers as they can be. -/
def inI (x : Int) : Bool := decide (-9223372036854775808 ≤ x) && decide (x ≤ 9223372036854775807)
def winnowlaw19_LedgerAsks.f (a0_0 : Int) (l0_1 l0_2 : List S38) (a0_3 : Bool) : Option Bool := if small l0_1 l0_2 ∧ (l0_2.all fun s => inI s.f1) = true then some true else none
theorem winnowlaw19_LedgerAsks.calls (a0_0 : Int) (A0_1 : Option Addr) (c0_1 : Nat) (l0_1 : List S38) (A0_2 : Option Addr) (c0_2 : Nat) (l0_2 : List S38) (a0_3 : Bool) (r : Bool) (w : World) (hr0_1 : Kd.C k38 w A0_1 l0_1.length l0_1) (hc0_1 : l0_1.length ≤ c0_1) (hr0_2 : Kd.C k38 w A0_2 l0_2.length l0_2) (hc0_2 : l0_2.length ≤ c0_2) (h : winnowlaw19_LedgerAsks.f a0_0 l0_1 l0_2 a0_3 = some r) (hTAB_ : Tab w) :
    Calls Tryd.prog 3 #[.agg #[.int .i64 a0_0, .slice A0_1 l0_1.length c0_1, .slice A0_2 l0_2.length c0_2, .bool a0_3]] w fun e w' => e = .returned (.bool r) ∧ Below w.heap.size w w' := by
  unfold winnowlaw19_LedgerAsks.f at h
  by_cases hs : small l0_1 l0_2 ∧ (l0_2.all fun s => inI s.f1) = true
  · rw [if_pos hs] at h
    injection h with h
    subst h
    refine LedgerAsks_walk a0_0 A0_1 c0_1 l0_1 A0_2 c0_2 l0_2 a0_3 w hr0_1 hc0_1 hr0_2 hc0_2 hs.1.1 hs.1.2 hTAB_ (fun s m => ?_)
    have q := List.all_eq_true.1 hs.2 s m
    unfold inI at q
    simp only [Bool.and_eq_true, decide_eq_true_eq] at q
    exact q
  · rw [if_neg hs] at h
    cases h
end Go.Proofs.YtponmfnegdlppaaDoor.P

end
