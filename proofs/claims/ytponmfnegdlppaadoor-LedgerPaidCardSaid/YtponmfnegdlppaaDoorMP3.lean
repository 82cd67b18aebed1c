/- Several texts laid together (wip/tools/merge2.py): HCheck, HDo. -/
import Derived.Test.YtponmfnegdlppaaDoorMP2
import Derived.Outline
import Derived.Deep.QuietTactic
import Derived.BigQuiet
section
/- ledger.Check, by hand (printed by HCheck.gen.py). -/
namespace Go.Proofs.YtponmfnegdlppaaDoor.P
open Go.RowKit Go.Proofs.YtponmfnegdlppaaDoorW.PrintWords Go.Proofs.YtponmfnegdlppaaDoorW.PrintLast Go.Proofs.YtponmfnegdlppaaDoorW.PrintMore
set_option linter.unusedVariables false
set_option linter.unusedSimpArgs false

/-- a book's box -/
def bookAt (w : World) (g : Nat) (t : Int) (u0 u1 : Value) (fl : Bool) : Prop := w.heap[g]? = some (.cells #[.int .i64 t, u0, u1, .bool fl] 24 (0, 0))
section
variable {w : World} {g : Nat} {t : Int} {u0 u1 : Value} {fl : Bool}
theorem bookAt.c0 (h : bookAt w g t u0 u1 fl) : w.cell? ⟨g, 0, none⟩ = some (.int .i64 t) := by rw [cell_of_row _ _ _ _ _ _ h]; rfl
theorem bookAt.c1 (h : bookAt w g t u0 u1 fl) : w.cell? ⟨g, 1, none⟩ = some u0 := by rw [cell_of_row _ _ _ _ _ _ h]; rfl
theorem bookAt.c2 (h : bookAt w g t u0 u1 fl) : w.cell? ⟨g, 2, none⟩ = some u1 := by rw [cell_of_row _ _ _ _ _ _ h]; rfl
theorem bookAt.c3 (h : bookAt w g t u0 u1 fl) : w.cell? ⟨g, 3, none⟩ = some (.bool fl) := by rw [cell_of_row _ _ _ _ _ _ h]; rfl
theorem bookAt.lt (h : bookAt w g t u0 u1 fl) : g < w.heap.size := (Array.getElem?_eq_some_iff.1 h).1
theorem bookAt.below {w' : World} {b : Nat} (h : bookAt w g t u0 u1 fl) (hb : Below b w w') (hg : g < b) : bookAt w' g t u0 u1 fl := (hb.block _ hg).trans h
end
theorem ix0 (A : Option Addr) (n c : Nat) (B : Option Addr) (m d : Nat) (w : World) : Sem.run Tryd.prog (Instr.index 69 (Value.agg #[.slice A n c, .slice B m d]) (Value.int .i64 0)) w = .ok (.slice A n c) w := by kernel_rfl
theorem ix1 (A : Option Addr) (n c : Nat) (B : Option Addr) (m d : Nat) (w : World) : Sem.run Tryd.prog (Instr.index 69 (Value.agg #[.slice A n c, .slice B m d]) (Value.int .i64 1)) w = .ok (.slice B m d) w := by kernel_rfl
/-- a new task's cells behind the world -/
def world38 (w : World) (s : S38) : World := (((w.alloc (.cells #[.int .i64 0, .int .i64 0, .int .i64 0] 38)).setCell ⟨w.heap.size, 0, none⟩ (.int .i64 s.f0)).setCell ⟨w.heap.size, 1, none⟩ (.int .i64 s.f1)).setCell ⟨w.heap.size, 2, none⟩ (.int .i64 s.f2)

set_option maxHeartbeats 4000000 in
set_option maxRecDepth 100000 in
theorem check_any (t : Int) (fl : Bool) (A0 : Option Addr) (c0 : Nat) (l0 : List S38) (A1 : Option Addr) (c1 : Nat) (l1 : List S38) (w : World) (h0 : Kd.C k38 w A0 l0.length l0) (h1 : Kd.C k38 w A1 l1.length l1) (hT : Tab w) :
    Calls Tryd.prog 15 #[.agg #[.int .i64 t, .slice A0 l0.length c0, .slice A1 l1.length c1, .bool fl]] w fun e w' => e = .returned (.int .i64 (checkP t l0 l1 fl)) ∧ Below w.heap.size w w' := by
  have HT := Aside0.mk hT
  have H0 := Aside0.mk h0
  have H1 := Aside0.mk h1
  obtain ⟨r, hr⟩ : ∃ r, checkP t l0 l1 fl = r := ⟨_, rfl⟩
  rw [hr]
  clear hT h0 h1
  unfold checkP at hr
  have hbk : bookAt (w.alloc (.cells #[.int .i64 t, .slice A0 l0.length c0, .slice A1 l1.length c1, .bool fl] 24)) w.heap.size t (.slice A0 l0.length c0) (.slice A1 l1.length c1) fl := heap_alloc_new w _
  have hba : Below w.heap.size w (w.alloc (.cells #[.int .i64 t, .slice A0 l0.length c0, .slice A1 l1.length c1, .bool fl] 24)) := below_alloc (Below.refl _ _) _
  generalize hn0 : l0.length = n0 at *
  generalize hn1 : l1.length = n1 at *
  have HN0 := Aside0.mk hn0
  have HN1 := Aside0.mk hn1
  have HBK := Aside0.mk hbk
  have HBA := Aside0.mk hba
  have HR := Aside0.mk hr
  clear hn0 hn1 hbk hba hr
  have hu22 := Tryd.underlying22
  have hu38 := Tryd.underlying38
  have hu24 := Tryd.underlying24
  have hu69 := Tryd.underlying69
  have hu70 := Tryd.underlying70
  by_cases k1 : t < 1
  · have hr := HR.out
    rw [if_pos k1] at hr
    subst hr
    have dk1 : decide (t < 1) = true := decide_eq_true k1
    have hx0 := HBK.out.c0
    have hx1 := HBK.out.c1
    have hx2 := HBK.out.c2
    go_enter Tryd.func15, Tryd.ntmps15
    go_wp2_with fail
    go_ret
    exact ⟨rfl, HBA.out⟩
  have dk1 : decide (t < 1) = false := decide_eq_false k1
  by_cases k2 : 16 < t
  · have hr := HR.out
    rw [if_neg k1] at hr; rw [if_pos k2] at hr
    subst hr
    have dk2 : decide (16 < t) = true := decide_eq_true k2
    have hx0 := HBK.out.c0
    have hx1 := HBK.out.c1
    have hx2 := HBK.out.c2
    go_enter Tryd.func15, Tryd.ntmps15
    go_wp2_with fail
    go_ret
    exact ⟨rfl, HBA.out⟩
  have dk2 : decide (16 < t) = false := decide_eq_false k2
  by_cases k3 : 256 < n0
  · have hr := HR.out
    rw [if_neg k1] at hr; rw [if_neg k2] at hr; rw [if_pos k3] at hr
    subst hr
    have dk3 : decide (256 < n0) = true := decide_eq_true k3
    have ek3 : decide ((256 : Int) < (n0 : Int)) = true := decide_eq_true (by omega)
    have hx0 := HBK.out.c0
    have hx1 := HBK.out.c1
    have hx2 := HBK.out.c2
    go_enter Tryd.func15, Tryd.ntmps15
    go_wp2_with fail
    go_ret
    exact ⟨rfl, HBA.out⟩
  have dk3 : decide (256 < n0) = false := decide_eq_false k3
  have ek3 : decide ((256 : Int) < (n0 : Int)) = false := decide_eq_false (by omega)
  by_cases k4 : n1 < 1
  · have hr := HR.out
    rw [if_neg k1] at hr; rw [if_neg k2] at hr; rw [if_neg k3] at hr; rw [if_pos k4] at hr
    subst hr
    have dk4 : decide (n1 < 1) = true := decide_eq_true k4
    have ek4 : decide ((n1 : Int) < 1) = true := decide_eq_true (by omega)
    have hx0 := HBK.out.c0
    have hx1 := HBK.out.c1
    have hx2 := HBK.out.c2
    go_enter Tryd.func15, Tryd.ntmps15
    go_wp2_with fail
    go_ret
    exact ⟨rfl, HBA.out⟩
  have dk4 : decide (n1 < 1) = false := decide_eq_false k4
  have ek4 : decide ((n1 : Int) < 1) = false := decide_eq_false (by omega)
  by_cases k5 : 65535 < n1
  · have hr := HR.out
    rw [if_neg k1] at hr; rw [if_neg k2] at hr; rw [if_neg k3] at hr; rw [if_neg k4] at hr; rw [if_pos k5] at hr
    subst hr
    have dk5 : decide (65535 < n1) = true := decide_eq_true k5
    have ek5 : decide ((65535 : Int) < (n1 : Int)) = true := decide_eq_true (by omega)
    have hx0 := HBK.out.c0
    have hx1 := HBK.out.c1
    have hx2 := HBK.out.c2
    go_enter Tryd.func15, Tryd.ntmps15
    go_wp2_with fail
    go_ret
    exact ⟨rfl, HBA.out⟩
  have dk5 : decide (65535 < n1) = false := decide_eq_false k5
  have ek5 : decide ((65535 : Int) < (n1 : Int)) = false := decide_eq_false (by omega)
  have hr := HR.out
  rw [if_neg k1, if_neg k2, if_neg k3, if_neg k4, if_neg k5] at hr
  clear HR
  have HR := Aside0.mk hr
  clear hr
  have ht1' : 1 ≤ t := by omega
  have ht2' : t ≤ 16 := by omega
  have hb0 : (n0 : Int) ≤ 256 := by omega
  have hb1 : (n1 : Int) ≤ 65535 := by omega
  have hx0 := HBK.out.c0
  have hx1 := HBK.out.c1
  have hx2 := HBK.out.c2
  go_enter Tryd.func15, Tryd.ntmps15
  go_wp2_with fail
  generalize w.alloc (.cells #[.int .i64 t, .slice A0 n0 c0, .slice A1 n1 c1, .bool fl] 24) = W1 at HBK HBA hx0 hx1 hx2 ⊢
  clear hx0 hx1 hx2 dk1 dk2 dk3 dk4 dk5 ek3 ek4 ek5 k1 k2 k3 k4 k5
  go_loopw [3, 39] (fun vf vo wr => ∃ f : Int, vf = .int .i64 f ∧ 0 ≤ f ∧ f ≤ 65535 * 2 ∧ ((vo = .int .i64 0 ∧ f = 0 ∧ Aside0 (scan0 t l0 l1 fl f = r)) ∨ (vo = .int .i64 1 ∧ f ≤ 256 ∧ Aside0 (scan1 t l1 fl f = r)) ∨ (vo = .int .i64 2 ∧ Aside0 (finP fl f = r))) ∧ Aside0 (bookAt wr w.heap.size t (.slice A0 n0 c0) (.slice A1 n1 c1) fl) ∧ Aside0 (Below w.heap.size w wr)) (fun _ vo _ => 2 - (intOf vo).toNat)
  case atStart => exact ⟨0, rfl, by omega, by omega, .inl ⟨rfl, rfl, HR⟩, HBK, HBA⟩
  case round =>
    clear HR HBK HBA
    obtain ⟨f, rfl, hf0, hf1, ho, HBK, HBA⟩ := hrel
    rcases ho with ⟨rfl, rfl, HR⟩ | ⟨rfl, hf2, HR⟩ | ⟨rfl, HR⟩
    · have hix := ix0 A0 n0 c0 A1 n1 c1
      go_wp2_with fail
      clear hix
      go_loopw [3, 45] (fun vf vi wr => ∃ (i : Nat) (f : Int), i ≤ n0 ∧ vf = .int .i64 f ∧ vi = .int .i64 i ∧ 0 ≤ f ∧ f ≤ 0 + i ∧ Aside0 ((match scanP t false (l0.drop i) f with | none => 190 | some f2 => scan1 t l1 fl f2) = r) ∧ Aside0 (bookAt wr w.heap.size t (.slice A0 n0 c0) (.slice A1 n1 c1) fl) ∧ Aside0 (Below w.heap.size w wr)) (fun _ vi _ => n0 - (intOf vi).toNat)
      case atStart => exact ⟨0, _, by omega, rfl, rfl, by omega, by omega, by rw [List.drop_zero]; exact HR, HBK, HBA⟩
      case round =>
        clear HR HBK HBA
        obtain ⟨i, f, hi, rfl, rfl, hf0, hf1, HR, HBK, HBA⟩ := hrel
        by_cases hlt : i < n0
        · have hd1 : decide ((i : Int) < (n0 : Int)) = true := by simp; omega
          have hd2 : decide (i < n0) = true := by simp; omega
          have hr := HR.out
          have hil : i < l0.length := by have := HN0.out; omega
          rw [drop38 l0 i hil] at hr
          obtain ⟨ad, e, hx0, hx1, hx2⟩ := at_T38 H0.out (i : Int) (by omega) (by have := HN0.out; omega)
          subst e
          generalize rd_T38 l0 (i : Int) = s at *
          rw [Int.toNat_natCast] at hx0 hx1 hx2
          replace hx0 := (HBA.out.cell (World.block_lt_of_cell? w _ hx0)).trans hx0
          replace hx1 := (HBA.out.cell (World.block_lt_of_cell? w _ hx1)).trans hx1
          replace hx2 := (HBA.out.cell (World.block_lt_of_cell? w _ hx2)).trans hx2
          have HS := Aside0.mk hr
          clear hr
          go_wp2_with fail
          clear hx0 hx1 hx2
          obtain ⟨sa, sb, sc⟩ := s
          dsimp only at *
          have hbk := HBK.out
          have hba := HBA.out
          have hya := below_alloc (Below.refl wr.heap.size wr) (.cells #[.int .i64 sa, .int .i64 sb, .int .i64 sc] 38)
          have hyr := heap_alloc_new wr (.cells #[.int .i64 sa, .int .i64 sb, .int .i64 sc] 38)
          have HB2 := Aside0.mk (hbk.below hya hbk.lt)
          have HA2 := Aside0.mk (below_step hba hya)
          generalize wr.alloc (.cells #[.int .i64 sa, .int .i64 sb, .int .i64 sc] 38) = W2 at hya hyr HB2 HA2 ⊢
          have hy0 : W2.cell? ⟨wr.heap.size, 0, none⟩ = some (.int .i64 sa) := by rw [cell_of_row _ _ _ _ _ _ hyr]; rfl
          have hy1 : W2.cell? ⟨wr.heap.size, 1, none⟩ = some (.int .i64 sb) := by rw [cell_of_row _ _ _ _ _ _ hyr]; rfl
          have hy2 : W2.cell? ⟨wr.heap.size, 2, none⟩ = some (.int .i64 sc) := by rw [cell_of_row _ _ _ _ _ _ hyr]; rfl
          have hz0 := HB2.out.c0
          have HT2 := HT.out.below HA2.out
          have ht0 := HT2.c0
          have ht1 := HT2.c1
          have ht2 := HT2.c2
          have ht3 := HT2.c3
          clear hya hyr hbk hba HT2 HBK HBA
          by_cases b1 : sa < 0
          · have d1 : decide (sa < 0) = true := decide_eq_true (by omega)
            have hr := HS.out
            have hg : goodP t false ⟨sa, sb, sc⟩ = false := by simp [goodP]; omega
            rw [scanP, if_neg (by rw [hg]; decide)] at hr
            subst hr
            clear HS hg
            go_quiet (fail)
            go_wp2_with fail
            go_ret
            exact ⟨rfl, by repeat (first | exact HA2.out | apply pw_below_drewN | apply below_drew1)⟩
          have d1 : decide (sa < 0) = false := decide_eq_false (by omega)
          by_cases b2 : 4 ≤ sa
          · have d2 : decide (4 ≤ sa) = true := decide_eq_true (by omega)
            have hr := HS.out
            have hg : goodP t false ⟨sa, sb, sc⟩ = false := by simp [goodP]; omega
            rw [scanP, if_neg (by rw [hg]; decide)] at hr
            subst hr
            clear HS hg
            go_quiet (fail)
            go_wp2_with fail
            go_ret
            exact ⟨rfl, by repeat (first | exact HA2.out | apply pw_below_drewN | apply below_drew1)⟩
          have d2 : decide (4 ≤ sa) = false := decide_eq_false (by omega)
          by_cases b3 : sa = 2
          · have d3 : (sa == 2) = true := by simp; omega
            have hr := HS.out
            have hg : goodP t false ⟨sa, sb, sc⟩ = false := by simp [goodP]; omega
            rw [scanP, if_neg (by rw [hg]; decide)] at hr
            subst hr
            clear HS hg
            go_quiet (fail)
            go_wp2_with fail
            go_ret
            exact ⟨rfl, by repeat (first | exact HA2.out | apply pw_below_drewN | apply below_drew1)⟩
          have d3 : (sa == 2) = false := by simp; omega
          by_cases b4 : sc < 0
          · have d4 : decide (sc < 0) = true := decide_eq_true (by omega)
            have hr := HS.out
            have hg : goodP t false ⟨sa, sb, sc⟩ = false := by simp [goodP]; omega
            rw [scanP, if_neg (by rw [hg]; decide)] at hr
            subst hr
            clear HS hg
            go_quiet (fail)
            go_wp2_with fail
            go_ret
            exact ⟨rfl, by repeat (first | exact HA2.out | apply pw_below_drewN | apply below_drew1)⟩
          have d4 : decide (sc < 0) = false := decide_eq_false (by omega)
          by_cases b5 : t < sc
          · have d5 : decide (t < sc) = true := decide_eq_true (by omega)
            have hr := HS.out
            have hg : goodP t false ⟨sa, sb, sc⟩ = false := by simp [goodP]; omega
            rw [scanP, if_neg (by rw [hg]; decide)] at hr
            subst hr
            clear HS hg
            go_quiet (fail)
            go_wp2_with fail
            go_ret
            exact ⟨rfl, by repeat (first | exact HA2.out | apply pw_below_drewN | apply below_drew1)⟩
          have d5 : decide (t < sc) = false := decide_eq_false (by omega)
          have hv : sa = 0 ∨ sa = 1 ∨ sa = 3 := by omega
          rcases hv with rfl | rfl | rfl
          · have hw : wrap64 (sc + 0) = sc + 0 := by unfold wrap64; omega
            have hw2 : IntKind.i64.wrap (sc + 0) = sc + 0 := by rw [i64_w]; exact hw
            by_cases b6 : sb = sc + 0
            · subst b6
              go_quiet (fail)
              by_cases b7 : sc = t
              · have d7 : (sc == t) = true := by simp; omega
                have hr := HS.out
                have hg : goodP t false ⟨0, sc + 0, sc⟩ = true := by simp [goodP]; omega
                rw [scanP, if_pos hg, if_pos b7] at hr
                have HR2 := Aside0.mk hr
                clear hr hg HS
                have hw3 : IntKind.i64.wrap (f + 1) = f + 1 := by rw [i64_w]; unfold wrap64; omega
                go_wp2_with fail
                go_roundw
                case rel => exact ⟨i + 1, f + 1, by omega, by first | rfl | go_num, by go_num, by omega, by omega, HR2, ⟨HB2.out.below (pw_below_drewN (Below.refl _ _) _) HB2.out.lt⟩, ⟨by repeat (first | exact HA2.out | apply pw_below_drewN | apply below_drew1)⟩⟩
                case measure => simp [intOf]; omega
              · have d7 : (sc == t) = false := by simp; omega
                have hr := HS.out
                have hg : goodP t false ⟨0, sc + 0, sc⟩ = true := by simp [goodP]; omega
                rw [scanP, if_pos hg, if_neg b7] at hr
                have HR2 := Aside0.mk hr
                clear hr hg HS
                go_wp2_with fail
                go_roundw
                case rel => exact ⟨i + 1, f, by omega, by first | rfl | go_num, by go_num, by omega, by omega, HR2, ⟨HB2.out.below (pw_below_drewN (Below.refl _ _) _) HB2.out.lt⟩, ⟨by repeat (first | exact HA2.out | apply pw_below_drewN | apply below_drew1)⟩⟩
                case measure => simp [intOf]; omega
            · have d6 : (sb != sc + 0) = true := by simp; omega
              have d6b : (sb == sc + 0) = false := by simp; omega
              have hr := HS.out
              have hg : goodP t false ⟨0, sb, sc⟩ = false := by simp [goodP]; omega
              rw [scanP, if_neg (by rw [hg]; decide)] at hr
              subst hr
              clear HS hg
              go_quiet (fail)
              go_wp2_with fail
              go_ret
              exact ⟨rfl, by repeat (first | exact HA2.out | apply pw_below_drewN | apply below_drew1)⟩
          · have hw : wrap64 (sc + 1) = sc + 1 := by unfold wrap64; omega
            have hw2 : IntKind.i64.wrap (sc + 1) = sc + 1 := by rw [i64_w]; exact hw
            by_cases b6 : sb = sc + 1
            · subst b6
              go_quiet (fail)
              by_cases b7 : sc = t
              · have d7 : (sc == t) = true := by simp; omega
                have hr := HS.out
                have hg : goodP t false ⟨1, sc + 1, sc⟩ = false := by simp [goodP]; omega
                rw [scanP, if_neg (by rw [hg]; decide)] at hr
                subst hr
                clear HS hg
                have hw3 : IntKind.i64.wrap (f + 1) = f + 1 := by rw [i64_w]; unfold wrap64; omega
                go_wp2_with fail
                go_ret
                exact ⟨rfl, by repeat (first | exact HA2.out | apply pw_below_drewN | apply below_drew1)⟩
              · have d7 : (sc == t) = false := by simp; omega
                have hr := HS.out
                have hg : goodP t false ⟨1, sc + 1, sc⟩ = true := by simp [goodP]; omega
                rw [scanP, if_pos hg, if_neg b7] at hr
                have HR2 := Aside0.mk hr
                clear hr hg HS
                go_wp2_with fail
                go_roundw
                case rel => exact ⟨i + 1, f, by omega, by first | rfl | go_num, by go_num, by omega, by omega, HR2, ⟨HB2.out.below (pw_below_drewN (Below.refl _ _) _) HB2.out.lt⟩, ⟨by repeat (first | exact HA2.out | apply pw_below_drewN | apply below_drew1)⟩⟩
                case measure => simp [intOf]; omega
            · have d6 : (sb != sc + 1) = true := by simp; omega
              have d6b : (sb == sc + 1) = false := by simp; omega
              have hr := HS.out
              have hg : goodP t false ⟨1, sb, sc⟩ = false := by simp [goodP]; omega
              rw [scanP, if_neg (by rw [hg]; decide)] at hr
              subst hr
              clear HS hg
              go_quiet (fail)
              go_wp2_with fail
              go_ret
              exact ⟨rfl, by repeat (first | exact HA2.out | apply pw_below_drewN | apply below_drew1)⟩
          · have hw : wrap64 (sc + 1) = sc + 1 := by unfold wrap64; omega
            have hw2 : IntKind.i64.wrap (sc + 1) = sc + 1 := by rw [i64_w]; exact hw
            by_cases b6 : sb = sc + 1
            · subst b6
              go_quiet (fail)
              by_cases b7 : sc = t
              · have d7 : (sc == t) = true := by simp; omega
                have hr := HS.out
                have hg : goodP t false ⟨3, sc + 1, sc⟩ = false := by simp [goodP]; omega
                rw [scanP, if_neg (by rw [hg]; decide)] at hr
                subst hr
                clear HS hg
                have hw3 : IntKind.i64.wrap (f + 1) = f + 1 := by rw [i64_w]; unfold wrap64; omega
                go_wp2_with fail
                go_ret
                exact ⟨rfl, by repeat (first | exact HA2.out | apply pw_below_drewN | apply below_drew1)⟩
              · have d7 : (sc == t) = false := by simp; omega
                have hr := HS.out
                have hg : goodP t false ⟨3, sc + 1, sc⟩ = true := by simp [goodP]; omega
                rw [scanP, if_pos hg, if_neg b7] at hr
                have HR2 := Aside0.mk hr
                clear hr hg HS
                go_wp2_with fail
                go_roundw
                case rel => exact ⟨i + 1, f, by omega, by first | rfl | go_num, by go_num, by omega, by omega, HR2, ⟨HB2.out.below (pw_below_drewN (Below.refl _ _) _) HB2.out.lt⟩, ⟨by repeat (first | exact HA2.out | apply pw_below_drewN | apply below_drew1)⟩⟩
                case measure => simp [intOf]; omega
            · have d6 : (sb != sc + 1) = true := by simp; omega
              have d6b : (sb == sc + 1) = false := by simp; omega
              have hr := HS.out
              have hg : goodP t false ⟨3, sb, sc⟩ = false := by simp [goodP]; omega
              rw [scanP, if_neg (by rw [hg]; decide)] at hr
              subst hr
              clear HS hg
              go_quiet (fail)
              go_wp2_with fail
              go_ret
              exact ⟨rfl, by repeat (first | exact HA2.out | apply pw_below_drewN | apply below_drew1)⟩
        · obtain rfl : i = n0 := by omega
          have hd1 : decide ((i : Int) < (i : Int)) = false := by simp
          have hr := HR.out
          rw [List.drop_eq_nil_of_le (by have := HN0.out; omega)] at hr
          have HR2 := Aside0.mk (show scan1 t l1 fl f = r from hr)
          clear hr HR
          go_wp2_with fail
          go_roundw
          case rel => exact ⟨f, rfl, by omega, by omega, .inr (.inl ⟨rfl, by omega, HR2⟩), HBK, HBA⟩
          case measure => simp [intOf]
    · have hix := ix1 A0 n0 c0 A1 n1 c1
      go_wp2_with fail
      clear hix
      go_loopw [3, 45] (fun vf vi wr => ∃ (i : Nat) (f : Int), i ≤ n1 ∧ vf = .int .i64 f ∧ vi = .int .i64 i ∧ 0 ≤ f ∧ f ≤ 256 + i ∧ Aside0 ((match scanP t true (l1.drop i) f with | none => 190 | some f2 => finP fl f2) = r) ∧ Aside0 (bookAt wr w.heap.size t (.slice A0 n0 c0) (.slice A1 n1 c1) fl) ∧ Aside0 (Below w.heap.size w wr)) (fun _ vi _ => n1 - (intOf vi).toNat)
      case atStart => exact ⟨0, _, by omega, rfl, rfl, by omega, by omega, by rw [List.drop_zero]; exact HR, HBK, HBA⟩
      case round =>
        clear HR HBK HBA
        obtain ⟨i, f, hi, rfl, rfl, hf0, hf1, HR, HBK, HBA⟩ := hrel
        by_cases hlt : i < n1
        · have hd1 : decide ((i : Int) < (n1 : Int)) = true := by simp; omega
          have hd2 : decide (i < n1) = true := by simp; omega
          have hr := HR.out
          have hil : i < l1.length := by have := HN1.out; omega
          rw [drop38 l1 i hil] at hr
          obtain ⟨ad, e, hx0, hx1, hx2⟩ := at_T38 H1.out (i : Int) (by omega) (by have := HN1.out; omega)
          subst e
          generalize rd_T38 l1 (i : Int) = s at *
          rw [Int.toNat_natCast] at hx0 hx1 hx2
          replace hx0 := (HBA.out.cell (World.block_lt_of_cell? w _ hx0)).trans hx0
          replace hx1 := (HBA.out.cell (World.block_lt_of_cell? w _ hx1)).trans hx1
          replace hx2 := (HBA.out.cell (World.block_lt_of_cell? w _ hx2)).trans hx2
          have HS := Aside0.mk hr
          clear hr
          go_wp2_with fail
          clear hx0 hx1 hx2
          obtain ⟨sa, sb, sc⟩ := s
          dsimp only at *
          have hbk := HBK.out
          have hba := HBA.out
          have hya := below_alloc (Below.refl wr.heap.size wr) (.cells #[.int .i64 sa, .int .i64 sb, .int .i64 sc] 38)
          have hyr := heap_alloc_new wr (.cells #[.int .i64 sa, .int .i64 sb, .int .i64 sc] 38)
          have HB2 := Aside0.mk (hbk.below hya hbk.lt)
          have HA2 := Aside0.mk (below_step hba hya)
          generalize wr.alloc (.cells #[.int .i64 sa, .int .i64 sb, .int .i64 sc] 38) = W2 at hya hyr HB2 HA2 ⊢
          have hy0 : W2.cell? ⟨wr.heap.size, 0, none⟩ = some (.int .i64 sa) := by rw [cell_of_row _ _ _ _ _ _ hyr]; rfl
          have hy1 : W2.cell? ⟨wr.heap.size, 1, none⟩ = some (.int .i64 sb) := by rw [cell_of_row _ _ _ _ _ _ hyr]; rfl
          have hy2 : W2.cell? ⟨wr.heap.size, 2, none⟩ = some (.int .i64 sc) := by rw [cell_of_row _ _ _ _ _ _ hyr]; rfl
          have hz0 := HB2.out.c0
          have HT2 := HT.out.below HA2.out
          have ht0 := HT2.c0
          have ht1 := HT2.c1
          have ht2 := HT2.c2
          have ht3 := HT2.c3
          clear hya hyr hbk hba HT2 HBK HBA
          by_cases b1 : sa < 0
          · have d1 : decide (sa < 0) = true := decide_eq_true (by omega)
            have hr := HS.out
            have hg : goodP t true ⟨sa, sb, sc⟩ = false := by simp [goodP]; omega
            rw [scanP, if_neg (by rw [hg]; decide)] at hr
            subst hr
            clear HS hg
            go_quiet (fail)
            go_wp2_with fail
            go_ret
            exact ⟨rfl, by repeat (first | exact HA2.out | apply pw_below_drewN | apply below_drew1)⟩
          have d1 : decide (sa < 0) = false := decide_eq_false (by omega)
          by_cases b2 : 4 ≤ sa
          · have d2 : decide (4 ≤ sa) = true := decide_eq_true (by omega)
            have hr := HS.out
            have hg : goodP t true ⟨sa, sb, sc⟩ = false := by simp [goodP]; omega
            rw [scanP, if_neg (by rw [hg]; decide)] at hr
            subst hr
            clear HS hg
            go_quiet (fail)
            go_wp2_with fail
            go_ret
            exact ⟨rfl, by repeat (first | exact HA2.out | apply pw_below_drewN | apply below_drew1)⟩
          have d2 : decide (4 ≤ sa) = false := decide_eq_false (by omega)
          by_cases b4 : sc < 0
          · have d4 : decide (sc < 0) = true := decide_eq_true (by omega)
            by_cases b3 : sa = 2
            · have d3 : (sa == 2) = true := by simp; omega
              have hr := HS.out
              have hg : goodP t true ⟨sa, sb, sc⟩ = false := by simp [goodP]; omega
              rw [scanP, if_neg (by rw [hg]; decide)] at hr
              subst hr
              clear HS hg
              go_quiet (fail)
              go_wp2_with fail
              go_ret
              exact ⟨rfl, by repeat (first | exact HA2.out | apply pw_below_drewN | apply below_drew1)⟩
            · have d3 : (sa == 2) = false := by simp; omega
              have hr := HS.out
              have hg : goodP t true ⟨sa, sb, sc⟩ = false := by simp [goodP]; omega
              rw [scanP, if_neg (by rw [hg]; decide)] at hr
              subst hr
              clear HS hg
              go_quiet (fail)
              go_wp2_with fail
              go_ret
              exact ⟨rfl, by repeat (first | exact HA2.out | apply pw_below_drewN | apply below_drew1)⟩
          have d4 : decide (sc < 0) = false := decide_eq_false (by omega)
          by_cases b5 : t < sc
          · have d5 : decide (t < sc) = true := decide_eq_true (by omega)
            by_cases b3 : sa = 2
            · have d3 : (sa == 2) = true := by simp; omega
              have hr := HS.out
              have hg : goodP t true ⟨sa, sb, sc⟩ = false := by simp [goodP]; omega
              rw [scanP, if_neg (by rw [hg]; decide)] at hr
              subst hr
              clear HS hg
              go_quiet (fail)
              go_wp2_with fail
              go_ret
              exact ⟨rfl, by repeat (first | exact HA2.out | apply pw_below_drewN | apply below_drew1)⟩
            · have d3 : (sa == 2) = false := by simp; omega
              have hr := HS.out
              have hg : goodP t true ⟨sa, sb, sc⟩ = false := by simp [goodP]; omega
              rw [scanP, if_neg (by rw [hg]; decide)] at hr
              subst hr
              clear HS hg
              go_quiet (fail)
              go_wp2_with fail
              go_ret
              exact ⟨rfl, by repeat (first | exact HA2.out | apply pw_below_drewN | apply below_drew1)⟩
          have d5 : decide (t < sc) = false := decide_eq_false (by omega)
          have hv : sa = 0 ∨ sa = 1 ∨ sa = 2 ∨ sa = 3 := by omega
          rcases hv with rfl | rfl | rfl | rfl
          · have hw : wrap64 (sc + 0) = sc + 0 := by unfold wrap64; omega
            have hw2 : IntKind.i64.wrap (sc + 0) = sc + 0 := by rw [i64_w]; exact hw
            by_cases b6 : sb = sc + 0
            · subst b6
              go_quiet (fail)
              by_cases b7 : sc = t
              · have d7 : (sc == t) = true := by simp; omega
                have hr := HS.out
                have hg : goodP t true ⟨0, sc + 0, sc⟩ = true := by simp [goodP]; omega
                rw [scanP, if_pos hg, if_pos b7] at hr
                have HR2 := Aside0.mk hr
                clear hr hg HS
                have hw3 : IntKind.i64.wrap (f + 1) = f + 1 := by rw [i64_w]; unfold wrap64; omega
                go_wp2_with fail
                go_roundw
                case rel => exact ⟨i + 1, f + 1, by omega, by first | rfl | go_num, by go_num, by omega, by omega, HR2, ⟨HB2.out.below (pw_below_drewN (Below.refl _ _) _) HB2.out.lt⟩, ⟨by repeat (first | exact HA2.out | apply pw_below_drewN | apply below_drew1)⟩⟩
                case measure => simp [intOf]; omega
              · have d7 : (sc == t) = false := by simp; omega
                have hr := HS.out
                have hg : goodP t true ⟨0, sc + 0, sc⟩ = true := by simp [goodP]; omega
                rw [scanP, if_pos hg, if_neg b7] at hr
                have HR2 := Aside0.mk hr
                clear hr hg HS
                go_wp2_with fail
                go_roundw
                case rel => exact ⟨i + 1, f, by omega, by first | rfl | go_num, by go_num, by omega, by omega, HR2, ⟨HB2.out.below (pw_below_drewN (Below.refl _ _) _) HB2.out.lt⟩, ⟨by repeat (first | exact HA2.out | apply pw_below_drewN | apply below_drew1)⟩⟩
                case measure => simp [intOf]; omega
            · have d6 : (sb != sc + 0) = true := by simp; omega
              have d6b : (sb == sc + 0) = false := by simp; omega
              have hr := HS.out
              have hg : goodP t true ⟨0, sb, sc⟩ = false := by simp [goodP]; omega
              rw [scanP, if_neg (by rw [hg]; decide)] at hr
              subst hr
              clear HS hg
              go_quiet (fail)
              go_wp2_with fail
              go_ret
              exact ⟨rfl, by repeat (first | exact HA2.out | apply pw_below_drewN | apply below_drew1)⟩
          · have hw : wrap64 (sc + 1) = sc + 1 := by unfold wrap64; omega
            have hw2 : IntKind.i64.wrap (sc + 1) = sc + 1 := by rw [i64_w]; exact hw
            by_cases b6 : sb = sc + 1
            · subst b6
              go_quiet (fail)
              by_cases b7 : sc = t
              · have d7 : (sc == t) = true := by simp; omega
                have hr := HS.out
                have hg : goodP t true ⟨1, sc + 1, sc⟩ = false := by simp [goodP]; omega
                rw [scanP, if_neg (by rw [hg]; decide)] at hr
                subst hr
                clear HS hg
                have hw3 : IntKind.i64.wrap (f + 1) = f + 1 := by rw [i64_w]; unfold wrap64; omega
                go_wp2_with fail
                go_ret
                exact ⟨rfl, by repeat (first | exact HA2.out | apply pw_below_drewN | apply below_drew1)⟩
              · have d7 : (sc == t) = false := by simp; omega
                have hr := HS.out
                have hg : goodP t true ⟨1, sc + 1, sc⟩ = true := by simp [goodP]; omega
                rw [scanP, if_pos hg, if_neg b7] at hr
                have HR2 := Aside0.mk hr
                clear hr hg HS
                go_wp2_with fail
                go_roundw
                case rel => exact ⟨i + 1, f, by omega, by first | rfl | go_num, by go_num, by omega, by omega, HR2, ⟨HB2.out.below (pw_below_drewN (Below.refl _ _) _) HB2.out.lt⟩, ⟨by repeat (first | exact HA2.out | apply pw_below_drewN | apply below_drew1)⟩⟩
                case measure => simp [intOf]; omega
            · have d6 : (sb != sc + 1) = true := by simp; omega
              have d6b : (sb == sc + 1) = false := by simp; omega
              have hr := HS.out
              have hg : goodP t true ⟨1, sb, sc⟩ = false := by simp [goodP]; omega
              rw [scanP, if_neg (by rw [hg]; decide)] at hr
              subst hr
              clear HS hg
              go_quiet (fail)
              go_wp2_with fail
              go_ret
              exact ⟨rfl, by repeat (first | exact HA2.out | apply pw_below_drewN | apply below_drew1)⟩
          · have hw : wrap64 (sc + 1) = sc + 1 := by unfold wrap64; omega
            have hw2 : IntKind.i64.wrap (sc + 1) = sc + 1 := by rw [i64_w]; exact hw
            by_cases b6 : sb = sc + 1
            · subst b6
              go_quiet (fail)
              by_cases b7 : sc = t
              · have d7 : (sc == t) = true := by simp; omega
                have hr := HS.out
                have hg : goodP t true ⟨2, sc + 1, sc⟩ = false := by simp [goodP]; omega
                rw [scanP, if_neg (by rw [hg]; decide)] at hr
                subst hr
                clear HS hg
                have hw3 : IntKind.i64.wrap (f + 1) = f + 1 := by rw [i64_w]; unfold wrap64; omega
                go_wp2_with fail
                go_ret
                exact ⟨rfl, by repeat (first | exact HA2.out | apply pw_below_drewN | apply below_drew1)⟩
              · have d7 : (sc == t) = false := by simp; omega
                have hr := HS.out
                have hg : goodP t true ⟨2, sc + 1, sc⟩ = true := by simp [goodP]; omega
                rw [scanP, if_pos hg, if_neg b7] at hr
                have HR2 := Aside0.mk hr
                clear hr hg HS
                go_wp2_with fail
                go_roundw
                case rel => exact ⟨i + 1, f, by omega, by first | rfl | go_num, by go_num, by omega, by omega, HR2, ⟨HB2.out.below (pw_below_drewN (Below.refl _ _) _) HB2.out.lt⟩, ⟨by repeat (first | exact HA2.out | apply pw_below_drewN | apply below_drew1)⟩⟩
                case measure => simp [intOf]; omega
            · have d6 : (sb != sc + 1) = true := by simp; omega
              have d6b : (sb == sc + 1) = false := by simp; omega
              have hr := HS.out
              have hg : goodP t true ⟨2, sb, sc⟩ = false := by simp [goodP]; omega
              rw [scanP, if_neg (by rw [hg]; decide)] at hr
              subst hr
              clear HS hg
              go_quiet (fail)
              go_wp2_with fail
              go_ret
              exact ⟨rfl, by repeat (first | exact HA2.out | apply pw_below_drewN | apply below_drew1)⟩
          · have hw : wrap64 (sc + 1) = sc + 1 := by unfold wrap64; omega
            have hw2 : IntKind.i64.wrap (sc + 1) = sc + 1 := by rw [i64_w]; exact hw
            by_cases b6 : sb = sc + 1
            · subst b6
              go_quiet (fail)
              by_cases b7 : sc = t
              · have d7 : (sc == t) = true := by simp; omega
                have hr := HS.out
                have hg : goodP t true ⟨3, sc + 1, sc⟩ = false := by simp [goodP]; omega
                rw [scanP, if_neg (by rw [hg]; decide)] at hr
                subst hr
                clear HS hg
                have hw3 : IntKind.i64.wrap (f + 1) = f + 1 := by rw [i64_w]; unfold wrap64; omega
                go_wp2_with fail
                go_ret
                exact ⟨rfl, by repeat (first | exact HA2.out | apply pw_below_drewN | apply below_drew1)⟩
              · have d7 : (sc == t) = false := by simp; omega
                have hr := HS.out
                have hg : goodP t true ⟨3, sc + 1, sc⟩ = true := by simp [goodP]; omega
                rw [scanP, if_pos hg, if_neg b7] at hr
                have HR2 := Aside0.mk hr
                clear hr hg HS
                go_wp2_with fail
                go_roundw
                case rel => exact ⟨i + 1, f, by omega, by first | rfl | go_num, by go_num, by omega, by omega, HR2, ⟨HB2.out.below (pw_below_drewN (Below.refl _ _) _) HB2.out.lt⟩, ⟨by repeat (first | exact HA2.out | apply pw_below_drewN | apply below_drew1)⟩⟩
                case measure => simp [intOf]; omega
            · have d6 : (sb != sc + 1) = true := by simp; omega
              have d6b : (sb == sc + 1) = false := by simp; omega
              have hr := HS.out
              have hg : goodP t true ⟨3, sb, sc⟩ = false := by simp [goodP]; omega
              rw [scanP, if_neg (by rw [hg]; decide)] at hr
              subst hr
              clear HS hg
              go_quiet (fail)
              go_wp2_with fail
              go_ret
              exact ⟨rfl, by repeat (first | exact HA2.out | apply pw_below_drewN | apply below_drew1)⟩
        · obtain rfl : i = n1 := by omega
          have hd1 : decide ((i : Int) < (i : Int)) = false := by simp
          have hr := HR.out
          rw [List.drop_eq_nil_of_le (by have := HN1.out; omega)] at hr
          have HR2 := Aside0.mk (show finP fl f = r from hr)
          clear hr HR
          go_wp2_with fail
          go_roundw
          case rel => exact ⟨f, rfl, by omega, by omega, .inr (.inr ⟨rfl, HR2⟩), HBK, HBA⟩
          case measure => simp [intOf]
    · have hr := HR.out
      have hz3 := HBK.out.c3
      unfold finP at hr
      by_cases g1 : 1 < f
      · rw [if_pos (.inl g1)] at hr
        subst hr
        have d1 : decide (1 < f) = true := decide_eq_true g1
        clear HR
        go_wp2_with fail
        go_ret
        exact ⟨rfl, by repeat (first | exact HBA.out | apply pw_below_drewN | apply below_drew1)⟩
      · have d1 : decide (1 < f) = false := decide_eq_false g1
        by_cases g2 : fl = decide (f = 1)
        · rw [if_neg (by rintro (h | h); exact g1 h; exact h g2)] at hr
          subst hr
          clear HR
          by_cases g3 : f = 1
          · have d3 : (f == 1) = true := by simp; omega
            obtain rfl : fl = true := by rw [g2]; exact decide_eq_true g3
            clear g2 g3 g1
            go_wp2_with fail
            go_ret
            exact ⟨rfl, by repeat (first | exact HBA.out | apply pw_below_drewN | apply below_drew1)⟩
          · have d3 : (f == 1) = false := by simp; omega
            obtain rfl : fl = false := by rw [g2]; exact decide_eq_false g3
            clear g2 g3 g1
            go_wp2_with fail
            go_ret
            exact ⟨rfl, by repeat (first | exact HBA.out | apply pw_below_drewN | apply below_drew1)⟩
        · rw [if_pos (.inr g2)] at hr
          subst hr
          clear HR
          by_cases g3 : f = 1
          · have d3 : (f == 1) = true := by simp; omega
            obtain rfl : fl = false := by rw [decide_eq_true g3] at g2; cases fl <;> simp_all
            go_wp2_with fail
            go_ret
            exact ⟨rfl, by repeat (first | exact HBA.out | apply pw_below_drewN | apply below_drew1)⟩
          · have d3 : (f == 1) = false := by simp; omega
            obtain rfl : fl = true := by rw [decide_eq_false g3] at g2; cases fl <;> simp_all
            go_wp2_with fail
            go_ret
            exact ⟨rfl, by repeat (first | exact HBA.out | apply pw_below_drewN | apply below_drew1)⟩
end Go.Proofs.YtponmfnegdlppaaDoor.P

end
section
/- What is done to a task in its place: the four function values. -/
namespace Go.Proofs.YtponmfnegdlppaaDoor.P
open Go.RowKit Go.Proofs.YtponmfnegdlppaaDoorW.PrintWords Go.Proofs.YtponmfnegdlppaaDoorW.PrintLast Go.Proofs.YtponmfnegdlppaaDoorW.PrintMore
set_option linter.unusedVariables false
set_option linter.unusedSimpArgs false

theorem setCell_id (W : World) (g off : Nat) (v : Value) (h : W.cell? ⟨g, off, none⟩ = some v) : W.setCell ⟨g, off, none⟩ v = W := by
  have hh : (W.setCell ⟨g, off, none⟩ v).heap = W.heap := by
    unfold World.setCell
    simp only
    apply Array.ext_getElem?
    intro k
    rw [Array.getElem?_modify]
    by_cases hk : g = k
    · subst hk
      rw [if_pos rfl]
      unfold World.cell? at h
      cases hx : W.heap[g]? with
      | none => rfl
      | some o =>
        rw [hx] at h
        cases o with
        | cells c e fr =>
          simp only [Option.isSome_none, Bool.false_eq_true, if_false] at h
          simp only [Option.map_some, Option.isSome_none, Bool.false_eq_true, if_false]
          congr 2
          apply Array.ext_getElem?
          intro j
          rw [Array.getElem?_setIfInBounds]
          split
          · rename_i hj
            subst hj
            split
            · exact h.symm
            · rename_i hj2
              rw [Array.getElem?_eq_none (by omega)] at h
              cases h
          · rfl
        | _ => rfl
    · rw [if_neg hk]
  unfold World.setCell at hh ⊢
  simp only at hh ⊢
  rw [hh]
theorem setCell_swap (W : World) (g o1 o2 : Nat) (v1 v2 : Value) (h : o1 ≠ o2) : (W.setCell ⟨g, o1, none⟩ v1).setCell ⟨g, o2, none⟩ v2 = (W.setCell ⟨g, o2, none⟩ v2).setCell ⟨g, o1, none⟩ v1 := by
  unfold World.setCell
  simp only
  congr 1
  apply Array.ext_getElem?
  intro k
  simp only [Array.getElem?_modify]
  by_cases hk : g = k
  · subst hk
    simp only [if_pos]
    cases W.heap[g]? with
    | none => rfl
    | some o =>
      cases o with
      | cells c e fr =>
        simp only [Option.map_some, Option.isSome_none, Bool.false_eq_true, if_false]
        rw [Array.setIfInBounds_comm _ _ h]
      | _ => rfl
  · simp only [if_neg hk]
/-- a task's cells and the book's last one written -/
def put4 (W : World) (gs off : Nat) (s : S38) (gb : Nat) (fl : Bool) : World := (((W.setCell ⟨gs, off, none⟩ (.int .i64 s.f0)).setCell ⟨gs, off + 1, none⟩ (.int .i64 s.f1)).setCell ⟨gs, off + 2, none⟩ (.int .i64 s.f2)).setCell ⟨gb, 3, none⟩ (.bool fl)
/-- where a task lies -/
structure taskAt (W : World) (gs off : Nat) (s : S38) : Prop where
  c0 : W.cell? ⟨gs, off, none⟩ = some (.int .i64 s.f0)
  c1 : W.cell? ⟨gs, off + 1, none⟩ = some (.int .i64 s.f1)
  c2 : W.cell? ⟨gs, off + 2, none⟩ = some (.int .i64 s.f2)
  f0 : W.frozen? ⟨gs, off, none⟩ = false
  f1 : W.frozen? ⟨gs, off + 1, none⟩ = false
  f2 : W.frozen? ⟨gs, off + 2, none⟩ = false

section
variable {W : World} {gb gs off : Nat} {t : Int} {u0 u1 : Value} {fl : Bool} {s : S38}
theorem put4_0 (hb : bookAt W gb t u0 u1 fl) (ht : taskAt W gs off s) (hne : gs ≠ gb) (x : Int) : put4 W gs off ⟨x, s.f1, s.f2⟩ gb fl = W.setCell ⟨gs, off, none⟩ (.int .i64 x) := by
  unfold put4
  dsimp only
  rw [setCell_id (W.setCell ⟨gs, off, none⟩ (.int .i64 x)) gs (off + 1) _ ((World.cell?_setCell_other _ _ _ _ (by simp)).trans ht.c1),
    setCell_id (W.setCell ⟨gs, off, none⟩ (.int .i64 x)) gs (off + 2) _ ((World.cell?_setCell_other _ _ _ _ (by simp)).trans ht.c2),
    setCell_id _ gb 3 _ ((World.cell?_setCell_other _ _ _ _ (by simp [hne])).trans hb.c3)]
end
set_option maxHeartbeats 4000000 in
set_option maxRecDepth 100000 in
theorem do_done (W : World) (gb gs off : Nat) (t : Int) (u0 u1 : Value) (fl : Bool) (s : S38) (hb : bookAt W gb t u0 u1 fl) (ht : taskAt W gs off s) (hne : gs ≠ gb) :
    Calls Tryd.prog 46 #[.pointer (some ⟨gb, 0, none⟩), .pointer (some ⟨gs, off, none⟩)] W fun e w' => e = .returned (.tuple #[]) ∧ ∃ q, w' = (put4 W gs off ⟨3, s.f1, s.f2⟩ gb fl).drewN q := by
  rw [put4_0 hb ht hne]
  have h0 := ht.c0
  have h3 := ht.f0
  have hu38 := Tryd.underlying38
  clear hb ht
  go_enter Tryd.func46, Tryd.ntmps46
  go_wp2_with fail
  go_end0
  exact ⟨rfl, 0, rfl⟩
set_option maxHeartbeats 4000000 in
set_option maxRecDepth 100000 in
theorem do_hold (W : World) (gb gs off : Nat) (t : Int) (u0 u1 : Value) (fl : Bool) (s : S38) (hb : bookAt W gb t u0 u1 fl) (ht : taskAt W gs off s) (hne : gs ≠ gb) :
    Calls Tryd.prog 59 #[.pointer (some ⟨gb, 0, none⟩), .pointer (some ⟨gs, off, none⟩)] W fun e w' => e = .returned (.tuple #[]) ∧ ∃ q, w' = (put4 W gs off ⟨2, s.f1, s.f2⟩ gb fl).drewN q := by
  rw [put4_0 hb ht hne]
  have h0 := ht.c0
  have h3 := ht.f0
  have hu38 := Tryd.underlying38
  clear hb ht
  go_enter Tryd.func59, Tryd.ntmps59
  go_wp2_with fail
  go_end0
  exact ⟨rfl, 0, rfl⟩
section
variable {W : World} {gb gs off : Nat} {t : Int} {u0 u1 : Value} {fl : Bool} {s : S38}
theorem put4_1 (hb : bookAt W gb t u0 u1 fl) (ht : taskAt W gs off s) (hne : gs ≠ gb) (x y : Int) : put4 W gs off ⟨x, y, s.f2⟩ gb fl = (W.setCell ⟨gs, off, none⟩ (.int .i64 x)).setCell ⟨gs, off + 1, none⟩ (.int .i64 y) := by
  unfold put4
  dsimp only
  rw [setCell_id ((W.setCell ⟨gs, off, none⟩ (.int .i64 x)).setCell ⟨gs, off + 1, none⟩ (.int .i64 y)) gs (off + 2) _ ((World.cell?_setCell_other _ _ _ _ (by simp)).trans ((World.cell?_setCell_other _ _ _ _ (by simp)).trans ht.c2)),
    setCell_id _ gb 3 _ ((World.cell?_setCell_other _ _ _ _ (by simp [hne])).trans ((World.cell?_setCell_other _ _ _ _ (by simp [hne])).trans hb.c3))]
theorem put4_2 (hb : bookAt W gb t u0 u1 fl) (ht : taskAt W gs off s) (hne : gs ≠ gb) (x z : Int) (f : Bool) : put4 W gs off ⟨x, s.f1, z⟩ gb f = ((W.setCell ⟨gs, off, none⟩ (.int .i64 x)).setCell ⟨gs, off + 2, none⟩ (.int .i64 z)).setCell ⟨gb, 3, none⟩ (.bool f) := by
  unfold put4
  dsimp only
  rw [setCell_id (W.setCell ⟨gs, off, none⟩ (.int .i64 x)) gs (off + 1) _ ((World.cell?_setCell_other _ _ _ _ (by simp)).trans ht.c1)]
end
set_option maxHeartbeats 4000000 in
set_option maxRecDepth 100000 in
theorem do_begin (W : World) (gb gs off gn : Nat) (n : Int) (t : Int) (u0 u1 : Value) (fl : Bool) (s : S38) (hb : bookAt W gb t u0 u1 fl) (ht : taskAt W gs off s) (hne : gs ≠ gb) (hn : W.cell? ⟨gn, 0, none⟩ = some (.int .i64 n)) (hng : gn ≠ gs) :
    Calls Tryd.prog 57 #[.pointer (some ⟨gb, 0, none⟩), .pointer (some ⟨gs, off, none⟩), .pointer (some ⟨gn, 0, none⟩)] W fun e w' => e = .returned (.tuple #[]) ∧ ∃ q, w' = (put4 W gs off ⟨1, n, s.f2⟩ gb fl).drewN q := by
  rw [put4_1 hb ht hne]
  have hsw := setCell_swap W gs off (off + 1) (.int .i64 1) (.int .i64 n) (by omega)
  have h0 := ht.c0
  have h1 := ht.c1
  have h3 := ht.f0
  have h4 := ht.f1
  have hu38 := Tryd.underlying38
  have HSW := Aside0.mk hsw
  clear hb ht hsw
  go_enter Tryd.func57, Tryd.ntmps57
  go_wp2_with fail
  go_region
  all_goals go_end0
  all_goals first | exact ⟨rfl, 1, rfl⟩ | exact ⟨rfl, 1, by rw [HSW.out]; rfl⟩
set_option maxHeartbeats 4000000 in
set_option maxRecDepth 100000 in
theorem do_charge (W : World) (gb gs off : Nat) (t : Int) (u0 u1 : Value) (fl : Bool) (s : S38) (hb : bookAt W gb t u0 u1 fl) (ht : taskAt W gs off s) (hne : gs ≠ gb) (h0 : 0 ≤ s.f2) (h16 : s.f2 ≤ 1000) :
    Calls Tryd.prog 50 #[.pointer (some ⟨gb, 0, none⟩), .pointer (some ⟨gs, off, none⟩)] W fun e w' => e = .returned (.tuple #[]) ∧ ∃ q, w' = (put4 W gs off ⟨0, s.f1, s.f2 + 1⟩ gb (fl || decide (s.f2 + 1 = t))).drewN q := by
  rw [put4_2 hb ht hne]
  have hx0 := ht.c0
  have hx2 := ht.c2
  have hf0 := ht.f0
  have hf2 := ht.f2
  have hz0 := hb.c0
  have hz3 := hb.c3
  have hzf : W.frozen? ⟨gb, 3, none⟩ = false := frozen_of_row _ _ _ _ _ hb
  have hw2 : IntKind.i64.wrap (s.f2 + 1) = s.f2 + 1 := by rw [i64_w]; unfold wrap64; omega
  have hu38 := Tryd.underlying38
  have hu24 := Tryd.underlying24
  clear hb ht h0 h16
  generalize s.f2 = c at *
  generalize s.f0 = a at *
  go_enter Tryd.func50, Tryd.ntmps50
  go_wp2_with fail
  have hy0 : ((W.setCell ⟨gs, off, none⟩ (.int .i64 0)).setCell ⟨gs, off + 2, none⟩ (.int .i64 (c + 1))).cell? ⟨gb, 0, none⟩ = some (.int .i64 t) := (World.cell?_setCell_other _ _ _ _ (by simp [hne])).trans ((World.cell?_setCell_other _ _ _ _ (by simp [hne])).trans hz0)
  have hy3 : ((W.setCell ⟨gs, off, none⟩ (.int .i64 0)).setCell ⟨gs, off + 2, none⟩ (.int .i64 (c + 1))).cell? ⟨gb, 3, none⟩ = some (.bool fl) := (World.cell?_setCell_other _ _ _ _ (by simp [hne])).trans ((World.cell?_setCell_other _ _ _ _ (by simp [hne])).trans hz3)
  have hy2 : ((W.setCell ⟨gs, off, none⟩ (.int .i64 0)).setCell ⟨gs, off + 2, none⟩ (.int .i64 (c + 1))).cell? ⟨gs, off + 2, none⟩ = some (.int .i64 (c + 1)) := World.cell?_setCell_same _ _ _ ((World.cell?_setCell_other _ _ _ _ (by simp)).trans hx2)
  have hyf : ((W.setCell ⟨gs, off, none⟩ (.int .i64 0)).setCell ⟨gs, off + 2, none⟩ (.int .i64 (c + 1))).frozen? ⟨gb, 3, none⟩ = false := by rw [World.frozen?_setCell, World.frozen?_setCell]; exact hzf
  obtain ⟨W2, hW2⟩ : ∃ W2, W2 = (W.setCell ⟨gs, off, none⟩ (.int .i64 0)).setCell ⟨gs, off + 2, none⟩ (.int .i64 (c + 1)) := ⟨_, rfl⟩
  rw [← hW2] at hy0 hy3 hy2 hyf ⊢
  have HW2 := Aside0.mk hW2
  clear hW2
  clear hf0 hf2 hz0 hz3 hzf hw2 hne
  cases fl
  · by_cases hc : c + 1 = t
    · have d1 : (c + 1 == t) = true := by simp; omega
      have HC := Aside0.mk (decide_eq_true hc)
      clear hc
      go_region
      all_goals go_end0
      all_goals exact ⟨rfl, 1, by rw [← HW2.out, HC.out]; rfl⟩
    · have d1 : (c + 1 == t) = false := by simp; omega
      have HC := Aside0.mk (decide_eq_false hc)
      clear hc
      go_region
      all_goals go_end0
      all_goals exact ⟨rfl, 1, by rw [← HW2.out, HC.out]; rfl⟩
  · go_region
    all_goals go_end0
    all_goals exact ⟨rfl, 1, by rw [← HW2.out]; rfl⟩
end Go.Proofs.YtponmfnegdlppaaDoor.P

end
