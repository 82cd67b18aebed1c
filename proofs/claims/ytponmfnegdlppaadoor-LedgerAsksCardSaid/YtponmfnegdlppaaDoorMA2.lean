/- Several texts laid together (wip/tools/merge2.py): HBegun, HLedC, HDo, HChanged, HKnown, HEnded, HDone, Pf40, Pf11, Pf42. -/
import Derived.Test.YtponmfnegdlppaaDoorMA1
import Derived.Shelf.Abstract
import Derived.Deep.DeepMust
section
/- ledger.Begun, by hand (printed by HBegun.gen.py). -/
namespace Go.Proofs.YtponmfnegdlppaaDoor.P
open Go.RowKit Go.Proofs.YtponmfnegdlppaaDoorW.PrintWords Go.Proofs.YtponmfnegdlppaaDoorW.PrintLast Go.Proofs.YtponmfnegdlppaaDoorW.PrintMore
set_option linter.unusedVariables false
set_option linter.unusedSimpArgs false

/-- a sum as the machine reckons it -/
def sumW (g : S38 → Int) : List S38 → Int → Int
  | [], n => n
  | s :: l, n => sumW g l (wrap64 (n + g s))
def begunP (t : Int) (l0 l1 : List S38) (fl : Bool) : Int × Int := if checkP t l0 l1 fl = 0 then (sumW S38.f1 l1 (sumW S38.f1 l0 0), sumW S38.f2 l1 (sumW S38.f2 l0 0)) else (0, 0)
theorem iy0 (A : Option Addr) (n c : Nat) (B : Option Addr) (m d : Nat) (w : World) : Sem.run Tryd.prog (Instr.index 69 (Value.agg #[.slice A n c, .slice B m d]) (Value.int .i64 0)) w = .ok (.slice A n c) w := by kernel_rfl

set_option maxHeartbeats 4000000 in
set_option maxRecDepth 100000 in
theorem begun_any (t : Int) (fl : Bool) (A0 : Option Addr) (c0 : Nat) (l0 : List S38) (A1 : Option Addr) (c1 : Nat) (l1 : List S38) (w : World) (h0 : Kd.C k38 w A0 l0.length l0) (h1 : Kd.C k38 w A1 l1.length l1) (hl0 : l0.length ≤ 6000000000000) (hl1 : l1.length ≤ 6000000000000) (hT : Tab w) :
    Calls Tryd.prog 12 #[.agg #[.int .i64 t, .slice A0 l0.length c0, .slice A1 l1.length c1, .bool fl]] w fun e w' => e = .returned (.tuple #[.int .i64 (begunP t l0 l1 fl).1, .int .i64 (begunP t l0 l1 fl).2]) ∧ Below w.heap.size w w' := by
  have hba := below_alloc (Below.refl w.heap.size w) (.cells #[.int .i64 t, .slice A0 l0.length c0, .slice A1 l1.length c1, .bool fl] 24)
  have hbk : bookAt (w.alloc (.cells #[.int .i64 t, .slice A0 l0.length c0, .slice A1 l1.length c1, .bool fl] 24)) w.heap.size t (.slice A0 l0.length c0) (.slice A1 l1.length c1) fl := heap_alloc_new w _
  have hcall := check_any t fl A0 c0 l0 A1 c1 l1 (w.alloc (.cells #[.int .i64 t, .slice A0 l0.length c0, .slice A1 l1.length c1, .bool fl] 24)) (Kd.C_below h0 hba) (Kd.C_below h1 hba) (hT.below hba)
  have HCA := Aside0.mk hcall
  have HBA := Aside0.mk hba
  have HBK := Aside0.mk hbk
  have H0 := Aside0.mk h0
  have H1 := Aside0.mk h1
  clear hcall hba hbk h0 h1 hT
  obtain ⟨⟨ra, rb⟩, hr⟩ : ∃ r, begunP t l0 l1 fl = r := ⟨_, rfl⟩
  rw [hr]
  dsimp only
  generalize hn0 : l0.length = n0 at *
  generalize hn1 : l1.length = n1 at *
  have HN0 := Aside0.mk hn0
  have HN1 := Aside0.mk hn1
  clear hn0 hn1
  have hu22 := Tryd.underlying22
  have hu38 := Tryd.underlying38
  have hu24 := Tryd.underlying24
  have hu69 := Tryd.underlying69
  have hz0 := HBK.out.c0
  have hz1 := HBK.out.c1
  have hz2 := HBK.out.c2
  have hz3 := HBK.out.c3
  by_cases hc : checkP t l0 l1 fl = 0
  · unfold begunP at hr
    rw [if_pos hc] at hr
    injection hr with hra hrb
    have hcall := HCA.out
    rw [hc] at hcall
    have HCA2 := Aside0.mk hcall
    have HRA := Aside0.mk hra
    have HRB := Aside0.mk hrb
    clear hra hrb hcall hc HCA
    go_enter Tryd.func12, Tryd.ntmps12
    go_upto_region 4 with (go_at_call 15; refine HCA2.out.mono ?_; rintro e W2 ⟨rfl, hB2⟩; have HB2 := Aside0.mk (HBK.out.below hB2 HBK.out.lt); have HA2 := Aside0.mk (below_step HBA.out hB2); clear hB2 HBK HBA hz0 hz1 hz2 hz3)
    clear HCA2
    have hz1 := HB2.out.c1
    have hz2 := HB2.out.c2
    go_wp2_with fail
    clear hz1 hz2
    go_loopw [4, 5, 18] (fun va vb vo wr => ∃ a b : Int, va = .int .i64 a ∧ vb = .int .i64 b ∧ ((vo = .int .i64 0 ∧ Aside0 (sumW S38.f1 l1 (sumW S38.f1 l0 a) = ra) ∧ Aside0 (sumW S38.f2 l1 (sumW S38.f2 l0 b) = rb)) ∨ (vo = .int .i64 1 ∧ Aside0 (sumW S38.f1 l1 a = ra) ∧ Aside0 (sumW S38.f2 l1 b = rb)) ∨ (vo = .int .i64 2 ∧ a = ra ∧ b = rb)) ∧ Aside0 (bookAt wr w.heap.size t (.slice A0 n0 c0) (.slice A1 n1 c1) fl) ∧ Aside0 (Below w.heap.size w wr)) (fun _ _ vo _ => 2 - (intOf vo).toNat)
    case atStart => exact ⟨0, 0, rfl, rfl, .inl ⟨rfl, HRA, HRB⟩, HB2, HA2⟩
    case round =>
      clear HRA HRB HB2 HA2
      obtain ⟨a, b, rfl, rfl, ho, HBK, HBA⟩ := hrel
      rcases ho with ⟨rfl, HRA, HRB⟩ | ⟨rfl, HRA, HRB⟩ | ⟨rfl, rfl, rfl⟩
      · have hix := ix0 A0 n0 c0 A1 n1 c1
        go_wp2_with fail
        clear hix
        go_loopw [4, 5, 23] (fun va vb vi wr => ∃ (i : Nat) (a b : Int), i ≤ n0 ∧ va = .int .i64 a ∧ vb = .int .i64 b ∧ vi = .int .i64 i ∧ Aside0 (sumW S38.f1 l1 (sumW S38.f1 (l0.drop i) a) = ra) ∧ Aside0 (sumW S38.f2 l1 (sumW S38.f2 (l0.drop i) b) = rb) ∧ Aside0 (bookAt wr w.heap.size t (.slice A0 n0 c0) (.slice A1 n1 c1) fl) ∧ Aside0 (Below w.heap.size w wr)) (fun _ _ vi _ => n0 - (intOf vi).toNat)
        case atStart => exact ⟨0, _, _, by omega, rfl, rfl, rfl, by rw [List.drop_zero]; exact HRA, by rw [List.drop_zero]; exact HRB, HBK, HBA⟩
        case round =>
          clear HRA HRB HBK HBA
          obtain ⟨i, a, b, hi, rfl, rfl, rfl, HRA, HRB, HBK, HBA⟩ := hrel
          by_cases hlt : i < n0
          · have hd1 : decide ((i : Int) < (n0 : Int)) = true := by simp; omega
            have hd2 : decide (i < n0) = true := by simp; omega
            have hra := HRA.out
            have hrb := HRB.out
            have hil : i < l0.length := by have := HN0.out; omega
            rw [drop38 l0 i hil] at hra hrb
            simp only [sumW] at hra hrb
            obtain ⟨ad, e, hx0, hx1, hx2⟩ := at_T38 H0.out (i : Int) (by omega) (by have := HN0.out; omega)
            subst e
            generalize rd_T38 l0 (i : Int) = s at *
            rw [Int.toNat_natCast] at hx0 hx1 hx2
            replace hx0 := (HBA.out.cell (World.block_lt_of_cell? w _ hx0)).trans hx0
            replace hx1 := (HBA.out.cell (World.block_lt_of_cell? w _ hx1)).trans hx1
            replace hx2 := (HBA.out.cell (World.block_lt_of_cell? w _ hx2)).trans hx2
            have HRA2 := Aside0.mk hra
            have HRB2 := Aside0.mk hrb
            obtain ⟨sa, sb, sc⟩ := s
            dsimp only at *
            have hya := below_alloc (Below.refl wr.heap.size wr) (.cells #[.int .i64 sa, .int .i64 sb, .int .i64 sc] 38)
            have HB2 := Aside0.mk (HBK.out.below hya HBK.out.lt)
            have HA2 := Aside0.mk (below_step HBA.out hya)
            have hw1 : IntKind.i64.wrap (a + sb) = wrap64 (a + sb) := i64_w _
            have hw2 : IntKind.i64.wrap (b + sc) = wrap64 (b + sc) := i64_w _
            clear hra hrb hya HRA HRB HBK HBA
            go_wp2_with fail
            go_roundw
            case rel => exact ⟨i + 1, wrap64 (a + sb), wrap64 (b + sc), by omega, by first | rfl | rw [hw1], by first | rfl | rw [hw2], by go_num, HRA2, HRB2, HB2, HA2⟩
            case measure => simp [intOf]; omega
          · obtain rfl : i = n0 := by omega
            have hd1 : decide ((i : Int) < (i : Int)) = false := by simp
            have hra := HRA.out
            have hrb := HRB.out
            rw [List.drop_eq_nil_of_le (by have := HN0.out; omega)] at hra hrb
            simp only [sumW] at hra hrb
            have HRA2 := Aside0.mk hra
            have HRB2 := Aside0.mk hrb
            clear hra hrb HRA HRB
            go_wp2_with fail
            go_roundw
            case rel => exact ⟨a, b, rfl, rfl, .inr (.inl ⟨rfl, HRA2, HRB2⟩), HBK, HBA⟩
            case measure => simp [intOf]
      · have hix := ix1 A0 n0 c0 A1 n1 c1
        go_wp2_with fail
        clear hix
        go_loopw [4, 5, 23] (fun va vb vi wr => ∃ (i : Nat) (a b : Int), i ≤ n1 ∧ va = .int .i64 a ∧ vb = .int .i64 b ∧ vi = .int .i64 i ∧ Aside0 (sumW S38.f1 (l1.drop i) a = ra) ∧ Aside0 (sumW S38.f2 (l1.drop i) b = rb) ∧ Aside0 (bookAt wr w.heap.size t (.slice A0 n0 c0) (.slice A1 n1 c1) fl) ∧ Aside0 (Below w.heap.size w wr)) (fun _ _ vi _ => n1 - (intOf vi).toNat)
        case atStart => exact ⟨0, _, _, by omega, rfl, rfl, rfl, by rw [List.drop_zero]; exact HRA, by rw [List.drop_zero]; exact HRB, HBK, HBA⟩
        case round =>
          clear HRA HRB HBK HBA
          obtain ⟨i, a, b, hi, rfl, rfl, rfl, HRA, HRB, HBK, HBA⟩ := hrel
          by_cases hlt : i < n1
          · have hd1 : decide ((i : Int) < (n1 : Int)) = true := by simp; omega
            have hd2 : decide (i < n1) = true := by simp; omega
            have hra := HRA.out
            have hrb := HRB.out
            have hil : i < l1.length := by have := HN1.out; omega
            rw [drop38 l1 i hil] at hra hrb
            simp only [sumW] at hra hrb
            obtain ⟨ad, e, hx0, hx1, hx2⟩ := at_T38 H1.out (i : Int) (by omega) (by have := HN1.out; omega)
            subst e
            generalize rd_T38 l1 (i : Int) = s at *
            rw [Int.toNat_natCast] at hx0 hx1 hx2
            replace hx0 := (HBA.out.cell (World.block_lt_of_cell? w _ hx0)).trans hx0
            replace hx1 := (HBA.out.cell (World.block_lt_of_cell? w _ hx1)).trans hx1
            replace hx2 := (HBA.out.cell (World.block_lt_of_cell? w _ hx2)).trans hx2
            have HRA2 := Aside0.mk hra
            have HRB2 := Aside0.mk hrb
            obtain ⟨sa, sb, sc⟩ := s
            dsimp only at *
            have hya := below_alloc (Below.refl wr.heap.size wr) (.cells #[.int .i64 sa, .int .i64 sb, .int .i64 sc] 38)
            have HB2 := Aside0.mk (HBK.out.below hya HBK.out.lt)
            have HA2 := Aside0.mk (below_step HBA.out hya)
            have hw1 : IntKind.i64.wrap (a + sb) = wrap64 (a + sb) := i64_w _
            have hw2 : IntKind.i64.wrap (b + sc) = wrap64 (b + sc) := i64_w _
            clear hra hrb hya HRA HRB HBK HBA
            go_wp2_with fail
            go_roundw
            case rel => exact ⟨i + 1, wrap64 (a + sb), wrap64 (b + sc), by omega, by first | rfl | rw [hw1], by first | rfl | rw [hw2], by go_num, HRA2, HRB2, HB2, HA2⟩
            case measure => simp [intOf]; omega
          · obtain rfl : i = n1 := by omega
            have hd1 : decide ((i : Int) < (i : Int)) = false := by simp
            have hra := HRA.out
            have hrb := HRB.out
            rw [List.drop_eq_nil_of_le (by have := HN1.out; omega)] at hra hrb
            simp only [sumW] at hra hrb
            have HRA2 := Aside0.mk hra
            have HRB2 := Aside0.mk hrb
            clear hra hrb HRA HRB
            go_wp2_with fail
            go_roundw
            case rel => exact ⟨a, b, rfl, rfl, .inr (.inr ⟨rfl, HRA2.out, HRB2.out⟩), HBK, HBA⟩
            case measure => simp [intOf]
      · go_wp2_with fail
        refine bodyPost_ret (results_tmp2 rfl _ _ _) rfl ?_
        exact ⟨rfl, HBA.out⟩
  · unfold begunP at hr
    rw [if_neg hc] at hr
    injection hr with hra hrb
    subst hra hrb
    have hne : (checkP t l0 l1 fl != 0) = true := bne_iff_ne.2 hc
    generalize checkP t l0 l1 fl = r at *
    clear hc
    go_enter Tryd.func12, Tryd.ntmps12
    go_wp2_with (go_at_call 15; refine HCA.out.mono ?_; rintro e W2 ⟨rfl, hB2⟩; have HA2 := Aside0.mk (below_step HBA.out hB2); clear hB2 HBK HBA hz0 hz1 hz2 hz3)
    refine bodyPost_ret (results_tmp2 rfl _ _ _) rfl ?_
    exact ⟨rfl, HA2.out⟩
end Go.Proofs.YtponmfnegdlppaaDoor.P

end
section
/- ledger.Check, Begun as the print calls them. -/
namespace Go.Proofs.YtponmfnegdlppaaDoor.P
open Go.RowKit Go.Proofs.YtponmfnegdlppaaDoorW.PrintWords Go.Proofs.YtponmfnegdlppaaDoorW.PrintLast Go.Proofs.YtponmfnegdlppaaDoorW.PrintMore
set_option linter.unusedVariables false
def ledger_Check.f (a0_0 : Int) (l0_1 l0_2 : List S38) (a0_3 : Bool) : Option Int := some (checkP a0_0 l0_1 l0_2 a0_3)
theorem ledger_Check.calls (a0_0 : Int) (A0_1 : Option Addr) (c0_1 : Nat) (l0_1 : List S38) (A0_2 : Option Addr) (c0_2 : Nat) (l0_2 : List S38) (a0_3 : Bool) (r : Int) (w : World) (hr0_1 : Kd.C k38 w A0_1 l0_1.length l0_1) (hc0_1 : l0_1.length ≤ c0_1) (hr0_2 : Kd.C k38 w A0_2 l0_2.length l0_2) (hc0_2 : l0_2.length ≤ c0_2) (h : ledger_Check.f a0_0 l0_1 l0_2 a0_3 = some r) (hTAB_ : Tab w) :
    Calls Tryd.prog 15 #[.agg #[.int .i64 a0_0, .slice A0_1 l0_1.length c0_1, .slice A0_2 l0_2.length c0_2, .bool a0_3]] w fun e w' => e = .returned (.int .i64 r) ∧ Below w.heap.size w w' := by
  obtain rfl := Option.some.inj h
  exact check_any a0_0 a0_3 A0_1 c0_1 l0_1 A0_2 c0_2 l0_2 w hr0_1 hr0_2 hTAB_
def ledger_Begun.f (a0_0 : Int) (l0_1 l0_2 : List S38) (a0_3 : Bool) : Option (Int × Int) := if small l0_1 l0_2 then some (begunP a0_0 l0_1 l0_2 a0_3) else none
theorem ledger_Begun.calls (a0_0 : Int) (A0_1 : Option Addr) (c0_1 : Nat) (l0_1 : List S38) (A0_2 : Option Addr) (c0_2 : Nat) (l0_2 : List S38) (a0_3 : Bool) (r1 r2 : Int) (w : World) (hr0_1 : Kd.C k38 w A0_1 l0_1.length l0_1) (hc0_1 : l0_1.length ≤ c0_1) (hr0_2 : Kd.C k38 w A0_2 l0_2.length l0_2) (hc0_2 : l0_2.length ≤ c0_2) (h : ledger_Begun.f a0_0 l0_1 l0_2 a0_3 = some (r1, r2)) (hTAB_ : Tab w) :
    Calls Tryd.prog 12 #[.agg #[.int .i64 a0_0, .slice A0_1 l0_1.length c0_1, .slice A0_2 l0_2.length c0_2, .bool a0_3]] w fun e w' => e = .returned (.tuple #[.int .i64 r1, .int .i64 r2]) ∧ Below w.heap.size w w' := by
  unfold ledger_Begun.f at h
  by_cases hs : small l0_1 l0_2
  · rw [if_pos hs] at h
    have e := Option.some.inj h
    have := begun_any a0_0 a0_3 A0_1 c0_1 l0_1 A0_2 c0_2 l0_2 w hr0_1 hr0_2 hs.1 hs.2 hTAB_
    rw [e] at this
    exact this
  · rw [if_neg hs] at h; cases h
end Go.Proofs.YtponmfnegdlppaaDoor.P

end
section
/- What is done to a task in its place: the four function values. -/
namespace Go.Proofs.YtponmfnegdlppaaDoor.P
open Go.RowKit Go.Proofs.YtponmfnegdlppaaDoorW.PrintWords Go.Proofs.YtponmfnegdlppaaDoorW.PrintLast Go.Proofs.YtponmfnegdlppaaDoorW.PrintMore
set_option linter.unusedVariables false
set_option linter.unusedSimpArgs false

theorem setCell_id (W : World) (g off : Nat) (v : Value) (h : W.cell? ⟨g, off, none⟩ = some v) : W.setCell ⟨g, off, none⟩ v = W := by
  have hh : (W.setCell ⟨g, off, none⟩ v).heap = W.heap := by
    unfold World.setCell
    simp only
    apply Array.ext_getElem?
    intro k
    rw [Array.getElem?_modify]
    by_cases hk : g = k
    · subst hk
      rw [if_pos rfl]
      unfold World.cell? at h
      cases hx : W.heap[g]? with
      | none => rfl
      | some o =>
        rw [hx] at h
        cases o with
        | cells c e fr =>
          simp only [Option.isSome_none, Bool.false_eq_true, if_false] at h
          simp only [Option.map_some, Option.isSome_none, Bool.false_eq_true, if_false]
          congr 2
          apply Array.ext_getElem?
          intro j
          rw [Array.getElem?_setIfInBounds]
          split
          · rename_i hj
            subst hj
            split
            · exact h.symm
            · rename_i hj2
              rw [Array.getElem?_eq_none (by omega)] at h
              cases h
          · rfl
        | _ => rfl
    · rw [if_neg hk]
  unfold World.setCell at hh ⊢
  simp only at hh ⊢
  rw [hh]
theorem setCell_swap (W : World) (g o1 o2 : Nat) (v1 v2 : Value) (h : o1 ≠ o2) : (W.setCell ⟨g, o1, none⟩ v1).setCell ⟨g, o2, none⟩ v2 = (W.setCell ⟨g, o2, none⟩ v2).setCell ⟨g, o1, none⟩ v1 := by
  unfold World.setCell
  simp only
  congr 1
  apply Array.ext_getElem?
  intro k
  simp only [Array.getElem?_modify]
  by_cases hk : g = k
  · subst hk
    simp only [if_pos]
    cases W.heap[g]? with
    | none => rfl
    | some o =>
      cases o with
      | cells c e fr =>
        simp only [Option.map_some, Option.isSome_none, Bool.false_eq_true, if_false]
        rw [Array.setIfInBounds_comm _ _ h]
      | _ => rfl
  · simp only [if_neg hk]
/-- a task's cells and the book's last one written -/
def put4 (W : World) (gs off : Nat) (s : S38) (gb : Nat) (fl : Bool) : World := (((W.setCell ⟨gs, off, none⟩ (.int .i64 s.f0)).setCell ⟨gs, off + 1, none⟩ (.int .i64 s.f1)).setCell ⟨gs, off + 2, none⟩ (.int .i64 s.f2)).setCell ⟨gb, 3, none⟩ (.bool fl)
/-- where a task lies -/
structure taskAt (W : World) (gs off : Nat) (s : S38) : Prop where
  c0 : W.cell? ⟨gs, off, none⟩ = some (.int .i64 s.f0)
  c1 : W.cell? ⟨gs, off + 1, none⟩ = some (.int .i64 s.f1)
  c2 : W.cell? ⟨gs, off + 2, none⟩ = some (.int .i64 s.f2)
  f0 : W.frozen? ⟨gs, off, none⟩ = false
  f1 : W.frozen? ⟨gs, off + 1, none⟩ = false
  f2 : W.frozen? ⟨gs, off + 2, none⟩ = false

section
variable {W : World} {gb gs off : Nat} {t : Int} {u0 u1 : Value} {fl : Bool} {s : S38}
theorem put4_0 (hb : bookAt W gb t u0 u1 fl) (ht : taskAt W gs off s) (hne : gs ≠ gb) (x : Int) : put4 W gs off ⟨x, s.f1, s.f2⟩ gb fl = W.setCell ⟨gs, off, none⟩ (.int .i64 x) := by
  unfold put4
  dsimp only
  rw [setCell_id (W.setCell ⟨gs, off, none⟩ (.int .i64 x)) gs (off + 1) _ ((World.cell?_setCell_other _ _ _ _ (by simp)).trans ht.c1),
    setCell_id (W.setCell ⟨gs, off, none⟩ (.int .i64 x)) gs (off + 2) _ ((World.cell?_setCell_other _ _ _ _ (by simp)).trans ht.c2),
    setCell_id _ gb 3 _ ((World.cell?_setCell_other _ _ _ _ (by simp [hne])).trans hb.c3)]
end
set_option maxHeartbeats 4000000 in
set_option maxRecDepth 100000 in
theorem do_done (W : World) (gb gs off : Nat) (t : Int) (u0 u1 : Value) (fl : Bool) (s : S38) (hb : bookAt W gb t u0 u1 fl) (ht : taskAt W gs off s) (hne : gs ≠ gb) :
    Calls Tryd.prog 46 #[.pointer (some ⟨gb, 0, none⟩), .pointer (some ⟨gs, off, none⟩)] W fun e w' => e = .returned (.tuple #[]) ∧ ∃ q, w' = (put4 W gs off ⟨3, s.f1, s.f2⟩ gb fl).drewN q := by
  rw [put4_0 hb ht hne]
  have h0 := ht.c0
  have h3 := ht.f0
  have hu38 := Tryd.underlying38
  clear hb ht
  go_enter Tryd.func46, Tryd.ntmps46
  go_wp2_with fail
  go_end0
  exact ⟨rfl, 0, rfl⟩
set_option maxHeartbeats 4000000 in
set_option maxRecDepth 100000 in
theorem do_hold (W : World) (gb gs off : Nat) (t : Int) (u0 u1 : Value) (fl : Bool) (s : S38) (hb : bookAt W gb t u0 u1 fl) (ht : taskAt W gs off s) (hne : gs ≠ gb) :
    Calls Tryd.prog 59 #[.pointer (some ⟨gb, 0, none⟩), .pointer (some ⟨gs, off, none⟩)] W fun e w' => e = .returned (.tuple #[]) ∧ ∃ q, w' = (put4 W gs off ⟨2, s.f1, s.f2⟩ gb fl).drewN q := by
  rw [put4_0 hb ht hne]
  have h0 := ht.c0
  have h3 := ht.f0
  have hu38 := Tryd.underlying38
  clear hb ht
  go_enter Tryd.func59, Tryd.ntmps59
  go_wp2_with fail
  go_end0
  exact ⟨rfl, 0, rfl⟩
section
variable {W : World} {gb gs off : Nat} {t : Int} {u0 u1 : Value} {fl : Bool} {s : S38}
theorem put4_1 (hb : bookAt W gb t u0 u1 fl) (ht : taskAt W gs off s) (hne : gs ≠ gb) (x y : Int) : put4 W gs off ⟨x, y, s.f2⟩ gb fl = (W.setCell ⟨gs, off, none⟩ (.int .i64 x)).setCell ⟨gs, off + 1, none⟩ (.int .i64 y) := by
  unfold put4
  dsimp only
  rw [setCell_id ((W.setCell ⟨gs, off, none⟩ (.int .i64 x)).setCell ⟨gs, off + 1, none⟩ (.int .i64 y)) gs (off + 2) _ ((World.cell?_setCell_other _ _ _ _ (by simp)).trans ((World.cell?_setCell_other _ _ _ _ (by simp)).trans ht.c2)),
    setCell_id _ gb 3 _ ((World.cell?_setCell_other _ _ _ _ (by simp [hne])).trans ((World.cell?_setCell_other _ _ _ _ (by simp [hne])).trans hb.c3))]
theorem put4_2 (hb : bookAt W gb t u0 u1 fl) (ht : taskAt W gs off s) (hne : gs ≠ gb) (x z : Int) (f : Bool) : put4 W gs off ⟨x, s.f1, z⟩ gb f = ((W.setCell ⟨gs, off, none⟩ (.int .i64 x)).setCell ⟨gs, off + 2, none⟩ (.int .i64 z)).setCell ⟨gb, 3, none⟩ (.bool f) := by
  unfold put4
  dsimp only
  rw [setCell_id (W.setCell ⟨gs, off, none⟩ (.int .i64 x)) gs (off + 1) _ ((World.cell?_setCell_other _ _ _ _ (by simp)).trans ht.c1)]
end
set_option maxHeartbeats 4000000 in
set_option maxRecDepth 100000 in
theorem do_begin (W : World) (gb gs off gn : Nat) (n : Int) (t : Int) (u0 u1 : Value) (fl : Bool) (s : S38) (hb : bookAt W gb t u0 u1 fl) (ht : taskAt W gs off s) (hne : gs ≠ gb) (hn : W.cell? ⟨gn, 0, none⟩ = some (.int .i64 n)) (hng : gn ≠ gs) :
    Calls Tryd.prog 57 #[.pointer (some ⟨gb, 0, none⟩), .pointer (some ⟨gs, off, none⟩), .pointer (some ⟨gn, 0, none⟩)] W fun e w' => e = .returned (.tuple #[]) ∧ ∃ q, w' = (put4 W gs off ⟨1, n, s.f2⟩ gb fl).drewN q := by
  rw [put4_1 hb ht hne]
  have hsw := setCell_swap W gs off (off + 1) (.int .i64 1) (.int .i64 n) (by omega)
  have h0 := ht.c0
  have h1 := ht.c1
  have h3 := ht.f0
  have h4 := ht.f1
  have hu38 := Tryd.underlying38
  have HSW := Aside0.mk hsw
  clear hb ht hsw
  go_enter Tryd.func57, Tryd.ntmps57
  go_wp2_with fail
  go_region
  all_goals go_end0
  all_goals first | exact ⟨rfl, 1, rfl⟩ | exact ⟨rfl, 1, by rw [HSW.out]; rfl⟩
set_option maxHeartbeats 4000000 in
set_option maxRecDepth 100000 in
theorem do_charge (W : World) (gb gs off : Nat) (t : Int) (u0 u1 : Value) (fl : Bool) (s : S38) (hb : bookAt W gb t u0 u1 fl) (ht : taskAt W gs off s) (hne : gs ≠ gb) (h0 : 0 ≤ s.f2) (h16 : s.f2 ≤ 1000) :
    Calls Tryd.prog 50 #[.pointer (some ⟨gb, 0, none⟩), .pointer (some ⟨gs, off, none⟩)] W fun e w' => e = .returned (.tuple #[]) ∧ ∃ q, w' = (put4 W gs off ⟨0, s.f1, s.f2 + 1⟩ gb (fl || decide (s.f2 + 1 = t))).drewN q := by
  rw [put4_2 hb ht hne]
  have hx0 := ht.c0
  have hx2 := ht.c2
  have hf0 := ht.f0
  have hf2 := ht.f2
  have hz0 := hb.c0
  have hz3 := hb.c3
  have hzf : W.frozen? ⟨gb, 3, none⟩ = false := frozen_of_row _ _ _ _ _ hb
  have hw2 : IntKind.i64.wrap (s.f2 + 1) = s.f2 + 1 := by rw [i64_w]; unfold wrap64; omega
  have hu38 := Tryd.underlying38
  have hu24 := Tryd.underlying24
  clear hb ht h0 h16
  generalize s.f2 = c at *
  generalize s.f0 = a at *
  go_enter Tryd.func50, Tryd.ntmps50
  go_wp2_with fail
  have hy0 : ((W.setCell ⟨gs, off, none⟩ (.int .i64 0)).setCell ⟨gs, off + 2, none⟩ (.int .i64 (c + 1))).cell? ⟨gb, 0, none⟩ = some (.int .i64 t) := (World.cell?_setCell_other _ _ _ _ (by simp [hne])).trans ((World.cell?_setCell_other _ _ _ _ (by simp [hne])).trans hz0)
  have hy3 : ((W.setCell ⟨gs, off, none⟩ (.int .i64 0)).setCell ⟨gs, off + 2, none⟩ (.int .i64 (c + 1))).cell? ⟨gb, 3, none⟩ = some (.bool fl) := (World.cell?_setCell_other _ _ _ _ (by simp [hne])).trans ((World.cell?_setCell_other _ _ _ _ (by simp [hne])).trans hz3)
  have hy2 : ((W.setCell ⟨gs, off, none⟩ (.int .i64 0)).setCell ⟨gs, off + 2, none⟩ (.int .i64 (c + 1))).cell? ⟨gs, off + 2, none⟩ = some (.int .i64 (c + 1)) := World.cell?_setCell_same _ _ _ ((World.cell?_setCell_other _ _ _ _ (by simp)).trans hx2)
  have hyf : ((W.setCell ⟨gs, off, none⟩ (.int .i64 0)).setCell ⟨gs, off + 2, none⟩ (.int .i64 (c + 1))).frozen? ⟨gb, 3, none⟩ = false := by rw [World.frozen?_setCell, World.frozen?_setCell]; exact hzf
  obtain ⟨W2, hW2⟩ : ∃ W2, W2 = (W.setCell ⟨gs, off, none⟩ (.int .i64 0)).setCell ⟨gs, off + 2, none⟩ (.int .i64 (c + 1)) := ⟨_, rfl⟩
  rw [← hW2] at hy0 hy3 hy2 hyf ⊢
  have HW2 := Aside0.mk hW2
  clear hW2
  clear hf0 hf2 hz0 hz3 hzf hw2 hne
  cases fl
  · by_cases hc : c + 1 = t
    · have d1 : (c + 1 == t) = true := by simp; omega
      have HC := Aside0.mk (decide_eq_true hc)
      clear hc
      go_region
      all_goals go_end0
      all_goals exact ⟨rfl, 1, by rw [← HW2.out, HC.out]; rfl⟩
    · have d1 : (c + 1 == t) = false := by simp; omega
      have HC := Aside0.mk (decide_eq_false hc)
      clear hc
      go_region
      all_goals go_end0
      all_goals exact ⟨rfl, 1, by rw [← HW2.out, HC.out]; rfl⟩
  · go_region
    all_goals go_end0
    all_goals exact ⟨rfl, 1, by rw [← HW2.out]; rfl⟩
end Go.Proofs.YtponmfnegdlppaaDoor.P

end
section
/- ledger.state and ledger.changed, by hand (printed by HChanged.gen.py). -/
namespace Go.Proofs.YtponmfnegdlppaaDoor.P
open Go.RowKit Go.Proofs.YtponmfnegdlppaaDoorW.PrintWords Go.Proofs.YtponmfnegdlppaaDoorW.PrintLast Go.Proofs.YtponmfnegdlppaaDoorW.PrintMore
set_option linter.unusedVariables false
set_option linter.unusedSimpArgs false

set_option maxHeartbeats 4000000 in
set_option maxRecDepth 100000 in
theorem state_map (W : World) (gb : Nat) (t : Int) (ad : Addr) (n0 c0 : Nat) (u1 : Value) (fl : Bool) (b : Int) (hb : bookAt W gb t (.slice (some ad) n0 c0) u1 fl) (h0 : 0 ≤ b) (h1 : b < n0) :
    Calls Tryd.prog 55 #[.pointer (some ⟨gb, 0, none⟩), .agg #[.int .i64 0, .int .i64 b]] W fun e w' => e = .returned (.pointer (some (ad.add (b.toNat * 3)))) ∧ Below W.heap.size W w' := by
  have hba := below_alloc (Below.refl W.heap.size W) (.cells #[.int .i64 0, .int .i64 b] 29)
  have hx1 : (W.alloc (.cells #[.int .i64 0, .int .i64 b] 29)).cell? ⟨gb, 1, none⟩ = some (.slice (some ad) n0 c0) := (hba.cell hb.lt).trans hb.c1
  have HBA := Aside0.mk hba
  have hu22 := Tryd.underlying22
  have hu29 := Tryd.underlying29
  have hu24 := Tryd.underlying24
  have hu38 := Tryd.underlying38
  clear hb hba
  have p1 := eq_true h0
  have p2 := eq_true h1
  go_enter Tryd.func55, Tryd.ntmps55
  go_wp2_with fail
  go_quiet (fail)
  go_wp2_with fail
  go_ret
  exact ⟨rfl, by repeat (first | exact HBA.out | apply pw_below_drewN | apply below_drew1)⟩
set_option maxHeartbeats 4000000 in
set_option maxRecDepth 100000 in
theorem state_red (W : World) (gb : Nat) (t : Int) (ad : Addr) (n0 c0 : Nat) (u1 : Value) (fl : Bool) (b : Int) (hb : bookAt W gb t u1 (.slice (some ad) n0 c0) fl) (h0 : 0 ≤ b) (h1 : b < n0) :
    Calls Tryd.prog 55 #[.pointer (some ⟨gb, 0, none⟩), .agg #[.int .i64 1, .int .i64 b]] W fun e w' => e = .returned (.pointer (some (ad.add (b.toNat * 3)))) ∧ Below W.heap.size W w' := by
  have hba := below_alloc (Below.refl W.heap.size W) (.cells #[.int .i64 1, .int .i64 b] 29)
  have hx1 : (W.alloc (.cells #[.int .i64 1, .int .i64 b] 29)).cell? ⟨gb, 2, none⟩ = some (.slice (some ad) n0 c0) := (hba.cell hb.lt).trans hb.c2
  have HBA := Aside0.mk hba
  have hu22 := Tryd.underlying22
  have hu29 := Tryd.underlying29
  have hu24 := Tryd.underlying24
  have hu38 := Tryd.underlying38
  clear hb hba
  have p1 := eq_true h0
  have p2 := eq_true h1
  go_enter Tryd.func55, Tryd.ntmps55
  go_wp2_with fail
  go_quiet (fail)
  go_wp2_with fail
  go_ret
  exact ⟨rfl, by repeat (first | exact HBA.out | apply pw_below_drewN | apply below_drew1)⟩

theorem own_ne {k g n c : Nat} (h : k ≠ g) : some k ≠ (Value.slice (some ⟨g, 0, none⟩) n c).ownBlock := by
  intro e
  have : k = g := by simpa [Value.ownBlock] using e
  exact h this
theorem addr0 (g b : Nat) : (⟨g, 0, none⟩ : Addr).add ((b : Int).toNat * 3) = ⟨g, b * 3, none⟩ := by
  rw [Int.toNat_natCast]
  unfold Addr.add
  by_cases h : b * 3 = 0
  · rw [h]; rfl
  · simp [h]
theorem state_map_own (W : World) (gb : Nat) (t : Int) (g n0 c0 : Nat) (u1 : Value) (fl : Bool) (b : Nat) (hb : bookAt W gb t (.slice (some ⟨g, 0, none⟩) n0 c0) u1 fl) (h1 : b < n0) :
    Calls Tryd.prog 55 #[.pointer (some ⟨gb, 0, none⟩), .agg #[.int .i64 0, .int .i64 b]] W fun e w' => e = .returned (.pointer (some ⟨g, b * 3, none⟩)) ∧ Below W.heap.size W w' := by
  have h := state_map W gb t ⟨g, 0, none⟩ n0 c0 u1 fl b hb (by omega) (by omega)
  rw [addr0] at h
  exact h
theorem state_red_own (W : World) (gb : Nat) (t : Int) (g n0 c0 : Nat) (u1 : Value) (fl : Bool) (b : Nat) (hb : bookAt W gb t u1 (.slice (some ⟨g, 0, none⟩) n0 c0) fl) (h1 : b < n0) :
    Calls Tryd.prog 55 #[.pointer (some ⟨gb, 0, none⟩), .agg #[.int .i64 1, .int .i64 b]] W fun e w' => e = .returned (.pointer (some ⟨g, b * 3, none⟩)) ∧ Below W.heap.size W w' := by
  have h := state_red W gb t ⟨g, 0, none⟩ n0 c0 u1 fl b hb (by omega) (by omega)
  rw [addr0] at h
  exact h
/-- an empty row, new -/
theorem R_none (W : World) (base : Nat) (hb : base ≤ W.heap.size) : Kd.R k38 38 (W.alloc (.cells #[] 38)) base (fun k => W.heap.size ≤ k) (.slice (some ⟨W.heap.size, 0, none⟩) 0 0) [] :=
  ⟨fun k hk => by have : W.heap.size = k := by simpa [Value.ownBlock] using hk
                  omega, [], World.ownsRow_lit (base := base) (e := 38) (size := k38.sz) W #[] 0 hb (by simp [maxLen]) (by simp), Reps.none _ _⟩
theorem taskAt_own {W : World} {base g n c : Nat} {P : Nat → Prop} {l : List S38} (h : Kd.R k38 38 W base P (.slice (some ⟨g, 0, none⟩) n c) l) (i : Nat) (hi : i < n) : taskAt W g (i * 3) (rd_T38 l (i : Int)) := by
  obtain ⟨ce, hcl, hM, hcc, hfr⟩ := Kd.R_elem h z38 (i : Int) (by omega) (by omega)
  obtain rfl := k38_openM hM
  rw [Int.toNat_natCast] at hcc hfr
  have e : l.getD i z38 = rd_T38 l (i : Int) := by unfold rd_T38; rw [Int.toNat_natCast]
  rw [e] at hcc
  exact ⟨hcc 0 _ rfl, hcc 1 _ rfl, hcc 2 _ rfl, hfr 0, hfr 1, hfr 2⟩
theorem R_put4 {W : World} {base g n c gb : Nat} {P : Nat → Prop} {l : List S38} (h : Kd.R k38 38 W base P (.slice (some ⟨g, 0, none⟩) n c) l) (i : Nat) (hi : i < n) (x : S38) (fl : Bool) (hP : ¬ P gb) :
    Kd.R k38 38 (put4 W g (i * 3) x gb fl) base P (.slice (some ⟨g, 0, none⟩) n c) (l.set i x) := by
  obtain ⟨ce, hcl, hM, hcc, hfr⟩ := Kd.R_elem h z38 (i : Int) (by omega) (by omega)
  obtain rfl := k38_openM hM
  have hR := Kd.R_seg h (i : Int) (by omega) (by omega) (seg := [.int .i64 x.f0, .int .i64 x.f1, .int .i64 x.f2]) (j := 0) hcl hcc (show 3 ≤ 3 from by decide) (x' := x) (k38_mkM _ _ _ x) (fun _ hk => hk)
  rw [Int.toNat_natCast] at hR
  exact Kd.R_far hR.1 (fun k hk => by rintro rfl; exact hP hk) _
theorem put4_heap (W : World) (gs off : Nat) (s : S38) (gb : Nat) (fl : Bool) (k : Nat) (h1 : k ≠ gs) (h2 : k ≠ gb) : (put4 W gs off s gb fl).heap[k]? = W.heap[k]? := by
  unfold put4
  rw [Below.heap_setCell _ _ _ _ h2, Below.heap_setCell _ _ _ _ h1, Below.heap_setCell _ _ _ _ h1, Below.heap_setCell _ _ _ _ h1]
theorem R_put4_far {W : World} {base gs off gb : Nat} {P : Nat → Prop} {v : Value} {l : List S38} (h : Kd.R k38 38 W base P v l) (x : S38) (fl : Bool) (h1 : ¬ P gs) (h2 : ¬ P gb) : Kd.R k38 38 (put4 W gs off x gb fl) base P v l :=
  Kd.R_far (Kd.R_far (Kd.R_far (Kd.R_far h (p := ⟨gs, off, none⟩) (fun k hk => by rintro rfl; exact h1 hk) _) (p := ⟨gs, off + 1, none⟩) (fun k hk => by rintro rfl; exact h1 hk) _) (p := ⟨gs, off + 2, none⟩) (fun k hk => by rintro rfl; exact h1 hk) _) (p := ⟨gb, 3, none⟩) (fun k hk => by rintro rfl; exact h2 hk) _
theorem book_put4 {W : World} {gs off gb : Nat} {t : Int} {u0 u1 : Value} {fl : Bool} (h : bookAt W gb t u0 u1 fl) (x : S38) (f : Bool) (hne : gs ≠ gb) : bookAt (put4 W gs off x gb f) gb t u0 u1 f := by
  unfold put4
  refine blk_put (cs := #[.int .i64 t, u0, u1, .bool fl]) ?_ 3 _ rfl
  rw [Below.heap_setCell _ _ _ _ (Ne.symm hne), Below.heap_setCell _ _ _ _ (Ne.symm hne), Below.heap_setCell _ _ _ _ (Ne.symm hne)]
  exact h
theorem below_put4 {w0 W : World} {base gs off gb : Nat} (h : Below base w0 W) (x : S38) (f : Bool) (h1 : base ≤ gs) (h2 : base ≤ gb) : Below base w0 (put4 W gs off x gb f) :=
  (((h.setCell h1 _).setCell h1 _).setCell h1 _).setCell h2 _
theorem size_put4 (W : World) (gs off : Nat) (x : S38) (gb : Nat) (f : Bool) : (put4 W gs off x gb f).heap.size = W.heap.size := by
  unfold put4
  simp

set_option maxHeartbeats 4000000 in
set_option maxRecDepth 100000 in
theorem changed_map (fid : Nat) (cap : Array Value) (hE : Enters Tryd.prog fid) (t : Int) (fl : Bool) (A0 : Option Addr) (c0 : Nat) (l0 : List S38) (A1 : Option Addr) (c1 : Nat) (l1 : List S38) (b : Nat) (s' : S38) (fl' : Bool) (w : World)
    (h0 : Kd.C k38 w A0 l0.length l0) (h1 : Kd.C k38 w A1 l1.length l1) (hl0 : l0.length ≤ 100000) (hl1 : l1.length ≤ 100000) (hb : b < l0.length)
    (hdo : ∀ (W : World) (gb gs off : Nat) (u0 u1 : Value), bookAt W gb t u0 u1 fl → taskAt W gs off (rd_T38 l0 (b : Int)) → gs ≠ gb → w.heap.size ≤ gs → Below w.heap.size w W →
      Calls Tryd.prog fid (#[.pointer (some ⟨gb, 0, none⟩), .pointer (some ⟨gs, off, none⟩)] ++ cap) W fun e w' => e = .returned (.tuple #[]) ∧ ∃ q, w' = (put4 W gs off s' gb fl').drewN q) :
    Calls Tryd.prog 56 #[.agg #[.int .i64 t, .slice A0 l0.length c0, .slice A1 l1.length c1, .bool fl], .agg #[.int .i64 0, .int .i64 b], .func (.func fid) #[] cap] w fun e w' =>
      ∃ v1 v2 : Value, e = .returned (.agg #[.int .i64 t, v1, v2, .bool fl']) ∧ Kd.R k38 38 w' w.heap.size (fun k => some k ≠ v2.ownBlock) v1 (l0.set b s') ∧ Kd.R k38 38 w' w.heap.size (fun k => some k ≠ v1.ownBlock) v2 l1 ∧ Below w.heap.size w w' := by
  have H0 := Aside0.mk h0
  have H1 := Aside0.mk h1
  have HL0 := Aside0.mk hl0
  have HL1 := Aside0.mk hl1
  have HBI := Aside0.mk hb
  have HDO := Aside0.mk hdo
  clear h0 h1 hl0 hl1 hb hdo
  have hu22 := Tryd.underlying22
  have hu29 := Tryd.underlying29
  have hu24 := Tryd.underlying24
  have hu38 := Tryd.underlying38
  have hw3 : ∃ W3, W3 = ((w.alloc (.cells #[.int .i64 t, .slice A0 l0.length c0, .slice A1 l1.length c1, .bool fl] 24)).alloc (.cells #[.int .i64 0, .int .i64 b] 29)).alloc (.cells #[.int .i64 0, .slice none 0 0, .slice none 0 0, .bool false] 24) := ⟨_, rfl⟩
  obtain ⟨W3, hW3⟩ := hw3
  have q0 : Below w.heap.size w W3 := by rw [hW3]; exact below_alloc (below_alloc (below_alloc (Below.refl _ _) _) _) _
  have q1 : W3.heap.size = w.heap.size + 3 := by rw [hW3]; simp
  have q2 : bookAt W3 w.heap.size t (.slice A0 l0.length c0) (.slice A1 l1.length c1) fl := by
    rw [hW3]
    have e1 := heap_alloc_new w (.cells #[.int .i64 t, .slice A0 l0.length c0, .slice A1 l1.length c1, .bool fl] 24)
    exact ((below_alloc (below_alloc (Below.refl _ _) _) _).block w.heap.size (by simp)).trans e1
  have q3 : W3.heap[w.heap.size + 1]? = some (.cells #[.int .i64 0, .int .i64 b] 29 (0, 0)) := by
    rw [hW3]
    have e1 := heap_alloc_new (w.alloc (.cells #[.int .i64 t, .slice A0 l0.length c0, .slice A1 l1.length c1, .bool fl] 24)) (.cells #[.int .i64 0, .int .i64 b] 29)
    rw [show (w.alloc (.cells #[.int .i64 t, .slice A0 l0.length c0, .slice A1 l1.length c1, .bool fl] 24)).heap.size = w.heap.size + 1 from by simp] at e1
    exact ((below_alloc (Below.refl _ _) _).block (w.heap.size + 1) (by simp)).trans e1
  have q4 : W3.heap[w.heap.size + 1 + 1]? = some (.cells #[.int .i64 0, .slice none 0 0, .slice none 0 0, .bool false] 24 (0, 0)) := by
    rw [hW3]
    have e1 := heap_alloc_new ((w.alloc (.cells #[.int .i64 t, .slice A0 l0.length c0, .slice A1 l1.length c1, .bool fl] 24)).alloc (.cells #[.int .i64 0, .int .i64 b] 29)) (.cells #[.int .i64 0, .slice none 0 0, .slice none 0 0, .bool false] 24)
    rw [show ((w.alloc (.cells #[.int .i64 t, .slice A0 l0.length c0, .slice A1 l1.length c1, .bool fl] 24)).alloc (.cells #[.int .i64 0, .int .i64 b] 29)).heap.size = w.heap.size + 1 + 1 from by simp] at e1
    exact e1
  have Q0 := Aside0.mk q0
  have Q1 := Aside0.mk q1
  have Q2 := Aside0.mk q2
  have Q3 := Aside0.mk q3
  have Q4 := Aside0.mk q4
  have HW3 := Aside0.mk hW3
  clear q0 q1 q2 q3 q4 hW3
  go_enter Tryd.func56, Tryd.ntmps56
  go_upto_region 1 with (fail)
  rw [← HW3.out]
  clear HW3
  have hx1 : (W3.alloc (.cells #[] 38)).cell? ⟨w.heap.size, 1, none⟩ = some (.slice A0 l0.length c0) := ((below_alloc (Below.refl _ _) _).cell Q2.out.lt).trans Q2.out.c1
  go_upto_region 2 with ((with_reducible refine gate_builtin (b := .append) (xs := #[.tmp 7, .tmp 9]) rfl ?_); at_builtin; go_must (refine Kd.R_append_rows k38 (w0 := w) w.heap.size rfl (.tmp 7) (.tmp 9) 22 38 (.agg #[(.int .i64 0), (.int .i64 0), (.int .i64 0)]) 24 rfl Tryd.underlying22 info38 rfl (by decide) (by omega) _ [] l0 _ _ _ (fun k => w.heap.size + 3 ≤ k) (fun _ => False) rfl rfl ?aO ?aR (fun _ _ h => h) (fun _ h => h.elim) ?aF ?aB ?aS ?aL ?_; (case aO => exact Kd.R_mono (R_none W3 _ (by have := Q1.out; omega)) (fun k hk => by have := Q1.out; omega)); (case aR => exact Kd.C_below H0.out (below_alloc Q0.out _)); (case aF => exact fun k hk => by (have := Q1.out; simp at hk; omega)); (case aB => exact below_alloc Q0.out _); (case aS => (have := Q1.out; simp; omega)); (case aL => have := HL0.out; simp; omega); intro v1 w1 ho hb hg hat; rw [List.nil_append] at ho; obtain ⟨B0, d0, e0⟩ := Kd.R_slice ho; subst e0; have HO := Aside0.mk ho; have HB1 := Aside0.mk hb; have HK := Aside0.mk (show ∀ k, k < W3.heap.size → w1.heap[k]? = W3.heap[k]? from fun k hk => (hg.block k (by simp; omega) (own_ne (by omega))).trans ((below_alloc (Below.refl _ _) _).block k hk)); clear ho hb hg hat hx1; have HBK := Aside0.mk (show bookAt w1 w.heap.size t (.slice A0 l0.length c0) (.slice A1 l1.length c1) fl from (HK.out _ (by have := Q1.out; omega)).trans Q2.out); have hx1 := HBK.out.c1; have hf1 : w1.frozen? ⟨w.heap.size, 1, none⟩ = false := frozen_of_row _ _ _ _ _ HBK.out))
  obtain ⟨W4, hW4⟩ : ∃ W4, W4 = w1.setCell ⟨w.heap.size, 1, none⟩ (.slice B0 l0.length d0) := ⟨_, rfl⟩
  rw [← hW4]
  have P1 := Aside0.mk (show bookAt W4 w.heap.size t (.slice B0 l0.length d0) (.slice A1 l1.length c1) fl from by rw [hW4]; exact blk_put (cs := #[.int .i64 t, .slice A0 l0.length c0, .slice A1 l1.length c1, .bool fl]) HBK.out 1 _ rfl)
  have PS := Aside0.mk (show w.heap.size + 3 ≤ W4.heap.size from by
    have h1 := HBK.out.lt
    have h2 := (Array.getElem?_eq_some_iff.1 ((HK.out (w.heap.size + 1 + 1) (by have := Q1.out; omega)).trans Q4.out)).1
    rw [hW4]
    simp
    omega)
  have P2 := Aside0.mk (show W4.heap[w.heap.size + 1]? = some (.cells #[.int .i64 0, .int .i64 b] 29 (0, 0)) from by rw [hW4, Below.heap_setCell _ _ _ _ (show w.heap.size + 1 ≠ w.heap.size by omega)]; exact (HK.out _ (by have := Q1.out; omega)).trans Q3.out)
  have P3 := Aside0.mk (show W4.heap[w.heap.size + 1 + 1]? = some (.cells #[.int .i64 0, .slice none 0 0, .slice none 0 0, .bool false] 24 (0, 0)) from by rw [hW4, Below.heap_setCell _ _ _ _ (show w.heap.size + 1 + 1 ≠ w.heap.size by omega)]; exact (HK.out _ (by have := Q1.out; omega)).trans Q4.out)
  have P4 := Aside0.mk (show Kd.R k38 38 W4 w.heap.size (fun k => w.heap.size + 3 ≤ k ∧ k < W4.heap.size) (.slice B0 l0.length d0) l0 from by
    have e : W4.heap.size = w1.heap.size := by rw [hW4]; simp
    rw [e, hW4]
    exact Kd.R_far (Kd.R_mono (Kd.R_bound HO.out) (fun k hk => ⟨hk.1, hk.2.2.1⟩)) (fun k hk => by have := hk.1; simp; omega) _)
  have P5 := Aside0.mk (show Below w.heap.size w W4 from by rw [hW4]; exact HB1.out.setCell (Nat.le_refl _) _)
  clear hW4 HBK hx1 hf1 HO HB1 HK Q0 Q1 Q2 Q3 Q4
  have hx2 : (W4.alloc (.cells #[] 38)).cell? ⟨w.heap.size, 2, none⟩ = some (.slice A1 l1.length c1) := ((below_alloc (Below.refl _ _) _).cell P1.out.lt).trans P1.out.c2
  go_upto_region 3 with ((with_reducible refine gate_builtin (b := .append) (xs := #[.tmp 12, .tmp 14]) rfl ?_); at_builtin; go_must (refine Kd.R_append_rows k38 (w0 := w) w.heap.size rfl (.tmp 12) (.tmp 14) 22 38 (.agg #[(.int .i64 0), (.int .i64 0), (.int .i64 0)]) 24 rfl Tryd.underlying22 info38 rfl (by decide) (by omega) _ [] l1 _ _ _ (fun k => W4.heap.size ≤ k) (fun _ => False) rfl rfl ?aO ?aR (fun _ _ h => h) (fun _ h => h.elim) ?aF ?aB ?aS ?aL ?_; (case aO => exact R_none W4 _ (by have := PS.out; omega)); (case aR => exact Kd.C_below H1.out (below_alloc P5.out _)); (case aF => exact fun k hk => by (simp at hk; omega)); (case aB => exact below_alloc P5.out _); (case aS => (have := PS.out; simp; omega)); (case aL => have := HL1.out; simp; omega); intro v1 w1 ho hb hg hat; rw [List.nil_append] at ho; obtain ⟨B1, d1, e0⟩ := Kd.R_slice ho; subst e0; have HO := Aside0.mk ho; have HB1 := Aside0.mk hb; have HR1 := Aside0.mk (Kd.R_grown (Kd.R_alloc P4.out _) hg (fun k hk => own_ne (by have := hk.2; omega))); have HK := Aside0.mk (show ∀ k, k < W4.heap.size → w1.heap[k]? = W4.heap[k]? from fun k hk => (hg.block k (by simp; omega) (own_ne (by omega))).trans ((below_alloc (Below.refl _ _) _).block k hk)); clear ho hb hg hat hx2; have HBK := Aside0.mk (show bookAt w1 w.heap.size t (.slice B0 l0.length d0) (.slice A1 l1.length c1) fl from (HK.out _ P1.out.lt).trans P1.out); have hx2 := HBK.out.c2; have hf2 : w1.frozen? ⟨w.heap.size, 2, none⟩ = false := frozen_of_row _ _ _ _ _ HBK.out))
  obtain ⟨W5, hW5⟩ : ∃ W5, W5 = w1.setCell ⟨w.heap.size, 2, none⟩ (.slice B1 l1.length d1) := ⟨_, rfl⟩
  rw [← hW5]
  have R1 := Aside0.mk (show bookAt W5 w.heap.size t (.slice B0 l0.length d0) (.slice B1 l1.length d1) fl from by rw [hW5]; exact blk_put (cs := #[.int .i64 t, .slice B0 l0.length d0, .slice A1 l1.length c1, .bool fl]) HBK.out 2 _ rfl)
  have R2 := Aside0.mk (show W5.heap[w.heap.size + 1]? = some (.cells #[.int .i64 0, .int .i64 b] 29 (0, 0)) from by rw [hW5, Below.heap_setCell _ _ _ _ (show w.heap.size + 1 ≠ w.heap.size by omega)]; exact (HK.out _ (by have := PS.out; omega)).trans P2.out)
  have R3 := Aside0.mk (show W5.heap[w.heap.size + 1 + 1]? = some (.cells #[.int .i64 0, .slice none 0 0, .slice none 0 0, .bool false] 24 (0, 0)) from by rw [hW5, Below.heap_setCell _ _ _ _ (show w.heap.size + 1 + 1 ≠ w.heap.size by omega)]; exact (HK.out _ (by have := PS.out; omega)).trans P3.out)
  have R4 := Aside0.mk (show Kd.R k38 38 W5 w.heap.size (fun k => w.heap.size + 3 ≤ k ∧ k < W4.heap.size) (.slice B0 l0.length d0) l0 from by
    rw [hW5]
    exact Kd.R_far HR1.out (fun k hk => by have := hk.1; simp; omega) _)
  have R5 := Aside0.mk (show Kd.R k38 38 W5 w.heap.size (fun k => W4.heap.size ≤ k) (.slice B1 l1.length d1) l1 from by
    rw [hW5]
    exact Kd.R_far HO.out (fun k hk => by have := PS.out; simp; omega) _)
  have R6 := Aside0.mk (show Below w.heap.size w W5 from by rw [hW5]; exact HB1.out.setCell (Nat.le_refl _) _)
  clear hW5 HBK hx2 hf2 HO HB1 HK HR1 P1 P2 P3 P4 P5
  have hy0 : W5.cell? ⟨w.heap.size + 1, 0, none⟩ = some (.int .i64 0) := by rw [cell_of_row _ _ _ _ _ _ R2.out]; rfl
  have hy1 : W5.cell? ⟨w.heap.size + 1, 1, none⟩ = some (.int .i64 b) := by rw [cell_of_row _ _ _ _ _ _ R2.out]; rfl
  obtain ⟨g, cg, eg, hg1, hg2, _⟩ := Kd.R_form R4.out (by have := HBI.out; omega)
  injection eg with eg1 eg2 eg3
  subst eg1 eg3
  have hE' : ∀ (args : Array Value) (w : World), Sem.run Tryd.prog (callFunc fid args) w = .ok (.enter fid args) w := hE
  go_wp2_with (go_at_call 55; refine (state_map_own W5 w.heap.size t g _ _ _ fl b R1.out HBI.out).mono ?_; rintro e W6 ⟨rfl, hB6⟩; have S1 := Aside0.mk (R1.out.below hB6 R1.out.lt); have S2 := Aside0.mk ((hB6.block _ (Array.getElem?_eq_some_iff.1 R3.out).1).trans R3.out); have S4 := Aside0.mk (Kd.R_below R4.out hB6); have S5 := Aside0.mk (Kd.R_below R5.out hB6); have S6 := Aside0.mk (below_step R6.out hB6); clear R1 R2 R3 R4 R5 R6 hB6 hy0 hy1)
  have hgo := S4.out.1 g rfl
  have hps := PS.out
  have hbi := HBI.out
  refine (HDO.out W6 w.heap.size g (b * 3) _ _ S1.out (taskAt_own S4.out b HBI.out) (by omega) (by omega) S6.out).mono ?_
  rintro e W7 ⟨rfl, q, hW7⟩
  have T1 := Aside0.mk (show bookAt W7 w.heap.size t _ _ fl' from by rw [hW7]; exact book_put4 S1.out s' fl' (by omega))
  have T2 := Aside0.mk (show W7.heap[w.heap.size + 1 + 1]? = some (.cells #[.int .i64 0, .slice none 0 0, .slice none 0 0, .bool false] 24 (0, 0)) from by
    rw [hW7]
    exact (put4_heap W6 g (b * 3) s' w.heap.size fl' _ (by omega) (by omega)).trans S2.out)
  have T4 := Aside0.mk (show Kd.R k38 38 W7 w.heap.size (fun k => w.heap.size + 3 ≤ k ∧ k < W4.heap.size) _ (l0.set b s') from by
    rw [hW7]
    exact Kd.R_drewN (R_put4 S4.out b hbi s' fl' (fun h => by have := h.1; omega)) q)
  have T5 := Aside0.mk (show Kd.R k38 38 W7 w.heap.size (fun k => W4.heap.size ≤ k) _ l1 from by
    rw [hW7]
    exact Kd.R_drewN (R_put4_far S5.out s' fl' (fun h => by have := hgo.2; omega) (fun h => by omega)) q)
  have T6 := Aside0.mk (show Below w.heap.size w W7 from by rw [hW7]; exact pw_below_drewN (below_put4 S6.out s' fl' (by omega) (Nat.le_refl _)) q)
  clear hW7 S1 S2 S4 S5 S6
  have hz0 := T1.out.c0
  have hz1 := T1.out.c1
  have hz2 := T1.out.c2
  have hz3 := T1.out.c3
  have hc0 : W7.cell? ⟨w.heap.size + 1 + 1, 0, none⟩ = some (.int .i64 0) := by rw [cell_of_row _ _ _ _ _ _ T2.out]; rfl
  have hc1 : W7.cell? ⟨w.heap.size + 1 + 1, 1, none⟩ = some (.slice none 0 0) := by rw [cell_of_row _ _ _ _ _ _ T2.out]; rfl
  have hc2 : W7.cell? ⟨w.heap.size + 1 + 1, 2, none⟩ = some (.slice none 0 0) := by rw [cell_of_row _ _ _ _ _ _ T2.out]; rfl
  have hc3 : W7.cell? ⟨w.heap.size + 1 + 1, 3, none⟩ = some (.bool false) := by rw [cell_of_row _ _ _ _ _ _ T2.out]; rfl
  have hf0 : W7.frozen? ⟨w.heap.size + 1 + 1, 0, none⟩ = false := frozen_of_row _ _ _ _ _ T2.out
  have hf1 : W7.frozen? ⟨w.heap.size + 1 + 1, 1, none⟩ = false := frozen_of_row _ _ _ _ _ T2.out
  have hf2 : W7.frozen? ⟨w.heap.size + 1 + 1, 2, none⟩ = false := frozen_of_row _ _ _ _ _ T2.out
  have hf3 : W7.frozen? ⟨w.heap.size + 1 + 1, 3, none⟩ = false := frozen_of_row _ _ _ _ _ T2.out
  clear hgo hps hbi
  go_wp2_with fail
  refine bodyPost_ret (results_cell_row rfl _ _ (w.heap.size + 1 + 1) 24 #[.int .i64 t, .slice (some ⟨g, 0, none⟩) l0.length d0, .slice B1 l1.length d1, .bool fl'] (0, 0) _ rfl (by refine blk_put (cs := #[.int .i64 t, .slice (some ⟨g, 0, none⟩) l0.length d0, .slice B1 l1.length d1, .bool false]) ?_ 3 _ rfl; refine blk_put (cs := #[.int .i64 t, .slice (some ⟨g, 0, none⟩) l0.length d0, .slice none 0 0, .bool false]) ?_ 2 _ rfl; refine blk_put (cs := #[.int .i64 t, .slice none 0 0, .slice none 0 0, .bool false]) ?_ 1 _ rfl; refine blk_put (cs := #[.int .i64 0, .slice none 0 0, .slice none 0 0, .bool false]) ?_ 0 _ rfl; exact T2.out) Tryd.underlying24 rfl (by kernel_rfl)) rfl ?_
  have hps := PS.out
  refine ⟨_, _, rfl, ?_, ?_, (((T6.out.setCell (by simp; omega) _).setCell (by simp; omega) _).setCell (by simp; omega) _).setCell (by simp; omega) _⟩
  · exact Kd.R_mono (Kd.R_far (p := ⟨w.heap.size + 1 + 1, 3, none⟩) (Kd.R_far (p := ⟨w.heap.size + 1 + 1, 2, none⟩) (Kd.R_far (p := ⟨w.heap.size + 1 + 1, 1, none⟩) (Kd.R_far (p := ⟨w.heap.size + 1 + 1, 0, none⟩) T4.out (fun k hk => by have := hk.1; simp; omega) _) (fun k hk => by have := hk.1; simp; omega) _) (fun k hk => by have := hk.1; simp; omega) _) (fun k hk => by have := hk.1; simp; omega) _) (fun k hk e => by have := T5.out.1 k e.symm; have := hk.2; omega)
  · exact Kd.R_mono (Kd.R_far (p := ⟨w.heap.size + 1 + 1, 3, none⟩) (Kd.R_far (p := ⟨w.heap.size + 1 + 1, 2, none⟩) (Kd.R_far (p := ⟨w.heap.size + 1 + 1, 1, none⟩) (Kd.R_far (p := ⟨w.heap.size + 1 + 1, 0, none⟩) T5.out (fun k hk => by simp; omega) _) (fun k hk => by simp; omega) _) (fun k hk => by simp; omega) _) (fun k hk => by simp; omega) _) (fun k hk e => by have := (T4.out.1 k e.symm).2; omega)

set_option maxHeartbeats 4000000 in
set_option maxRecDepth 100000 in
theorem changed_red (fid : Nat) (cap : Array Value) (hE : Enters Tryd.prog fid) (t : Int) (fl : Bool) (A0 : Option Addr) (c0 : Nat) (l0 : List S38) (A1 : Option Addr) (c1 : Nat) (l1 : List S38) (b : Nat) (s' : S38) (fl' : Bool) (w : World)
    (h0 : Kd.C k38 w A0 l0.length l0) (h1 : Kd.C k38 w A1 l1.length l1) (hl0 : l0.length ≤ 100000) (hl1 : l1.length ≤ 100000) (hb : b < l1.length)
    (hdo : ∀ (W : World) (gb gs off : Nat) (u0 u1 : Value), bookAt W gb t u0 u1 fl → taskAt W gs off (rd_T38 l1 (b : Int)) → gs ≠ gb → w.heap.size ≤ gs → Below w.heap.size w W →
      Calls Tryd.prog fid (#[.pointer (some ⟨gb, 0, none⟩), .pointer (some ⟨gs, off, none⟩)] ++ cap) W fun e w' => e = .returned (.tuple #[]) ∧ ∃ q, w' = (put4 W gs off s' gb fl').drewN q) :
    Calls Tryd.prog 56 #[.agg #[.int .i64 t, .slice A0 l0.length c0, .slice A1 l1.length c1, .bool fl], .agg #[.int .i64 1, .int .i64 b], .func (.func fid) #[] cap] w fun e w' =>
      ∃ v1 v2 : Value, e = .returned (.agg #[.int .i64 t, v1, v2, .bool fl']) ∧ Kd.R k38 38 w' w.heap.size (fun k => some k ≠ v2.ownBlock) v1 l0 ∧ Kd.R k38 38 w' w.heap.size (fun k => some k ≠ v1.ownBlock) v2 (l1.set b s') ∧ Below w.heap.size w w' := by
  have H0 := Aside0.mk h0
  have H1 := Aside0.mk h1
  have HL0 := Aside0.mk hl0
  have HL1 := Aside0.mk hl1
  have HBI := Aside0.mk hb
  have HDO := Aside0.mk hdo
  clear h0 h1 hl0 hl1 hb hdo
  have hu22 := Tryd.underlying22
  have hu29 := Tryd.underlying29
  have hu24 := Tryd.underlying24
  have hu38 := Tryd.underlying38
  have hw3 : ∃ W3, W3 = ((w.alloc (.cells #[.int .i64 t, .slice A0 l0.length c0, .slice A1 l1.length c1, .bool fl] 24)).alloc (.cells #[.int .i64 1, .int .i64 b] 29)).alloc (.cells #[.int .i64 0, .slice none 0 0, .slice none 0 0, .bool false] 24) := ⟨_, rfl⟩
  obtain ⟨W3, hW3⟩ := hw3
  have q0 : Below w.heap.size w W3 := by rw [hW3]; exact below_alloc (below_alloc (below_alloc (Below.refl _ _) _) _) _
  have q1 : W3.heap.size = w.heap.size + 3 := by rw [hW3]; simp
  have q2 : bookAt W3 w.heap.size t (.slice A0 l0.length c0) (.slice A1 l1.length c1) fl := by
    rw [hW3]
    have e1 := heap_alloc_new w (.cells #[.int .i64 t, .slice A0 l0.length c0, .slice A1 l1.length c1, .bool fl] 24)
    exact ((below_alloc (below_alloc (Below.refl _ _) _) _).block w.heap.size (by simp)).trans e1
  have q3 : W3.heap[w.heap.size + 1]? = some (.cells #[.int .i64 1, .int .i64 b] 29 (0, 0)) := by
    rw [hW3]
    have e1 := heap_alloc_new (w.alloc (.cells #[.int .i64 t, .slice A0 l0.length c0, .slice A1 l1.length c1, .bool fl] 24)) (.cells #[.int .i64 1, .int .i64 b] 29)
    rw [show (w.alloc (.cells #[.int .i64 t, .slice A0 l0.length c0, .slice A1 l1.length c1, .bool fl] 24)).heap.size = w.heap.size + 1 from by simp] at e1
    exact ((below_alloc (Below.refl _ _) _).block (w.heap.size + 1) (by simp)).trans e1
  have q4 : W3.heap[w.heap.size + 1 + 1]? = some (.cells #[.int .i64 0, .slice none 0 0, .slice none 0 0, .bool false] 24 (0, 0)) := by
    rw [hW3]
    have e1 := heap_alloc_new ((w.alloc (.cells #[.int .i64 t, .slice A0 l0.length c0, .slice A1 l1.length c1, .bool fl] 24)).alloc (.cells #[.int .i64 1, .int .i64 b] 29)) (.cells #[.int .i64 0, .slice none 0 0, .slice none 0 0, .bool false] 24)
    rw [show ((w.alloc (.cells #[.int .i64 t, .slice A0 l0.length c0, .slice A1 l1.length c1, .bool fl] 24)).alloc (.cells #[.int .i64 1, .int .i64 b] 29)).heap.size = w.heap.size + 1 + 1 from by simp] at e1
    exact e1
  have Q0 := Aside0.mk q0
  have Q1 := Aside0.mk q1
  have Q2 := Aside0.mk q2
  have Q3 := Aside0.mk q3
  have Q4 := Aside0.mk q4
  have HW3 := Aside0.mk hW3
  clear q0 q1 q2 q3 q4 hW3
  go_enter Tryd.func56, Tryd.ntmps56
  go_upto_region 1 with (fail)
  rw [← HW3.out]
  clear HW3
  have hx1 : (W3.alloc (.cells #[] 38)).cell? ⟨w.heap.size, 1, none⟩ = some (.slice A0 l0.length c0) := ((below_alloc (Below.refl _ _) _).cell Q2.out.lt).trans Q2.out.c1
  go_upto_region 2 with ((with_reducible refine gate_builtin (b := .append) (xs := #[.tmp 7, .tmp 9]) rfl ?_); at_builtin; go_must (refine Kd.R_append_rows k38 (w0 := w) w.heap.size rfl (.tmp 7) (.tmp 9) 22 38 (.agg #[(.int .i64 0), (.int .i64 0), (.int .i64 0)]) 24 rfl Tryd.underlying22 info38 rfl (by decide) (by omega) _ [] l0 _ _ _ (fun k => w.heap.size + 3 ≤ k) (fun _ => False) rfl rfl ?aO ?aR (fun _ _ h => h) (fun _ h => h.elim) ?aF ?aB ?aS ?aL ?_; (case aO => exact Kd.R_mono (R_none W3 _ (by have := Q1.out; omega)) (fun k hk => by have := Q1.out; omega)); (case aR => exact Kd.C_below H0.out (below_alloc Q0.out _)); (case aF => exact fun k hk => by (have := Q1.out; simp at hk; omega)); (case aB => exact below_alloc Q0.out _); (case aS => (have := Q1.out; simp; omega)); (case aL => have := HL0.out; simp; omega); intro v1 w1 ho hb hg hat; rw [List.nil_append] at ho; obtain ⟨B0, d0, e0⟩ := Kd.R_slice ho; subst e0; have HO := Aside0.mk ho; have HB1 := Aside0.mk hb; have HK := Aside0.mk (show ∀ k, k < W3.heap.size → w1.heap[k]? = W3.heap[k]? from fun k hk => (hg.block k (by simp; omega) (own_ne (by omega))).trans ((below_alloc (Below.refl _ _) _).block k hk)); clear ho hb hg hat hx1; have HBK := Aside0.mk (show bookAt w1 w.heap.size t (.slice A0 l0.length c0) (.slice A1 l1.length c1) fl from (HK.out _ (by have := Q1.out; omega)).trans Q2.out); have hx1 := HBK.out.c1; have hf1 : w1.frozen? ⟨w.heap.size, 1, none⟩ = false := frozen_of_row _ _ _ _ _ HBK.out))
  obtain ⟨W4, hW4⟩ : ∃ W4, W4 = w1.setCell ⟨w.heap.size, 1, none⟩ (.slice B0 l0.length d0) := ⟨_, rfl⟩
  rw [← hW4]
  have P1 := Aside0.mk (show bookAt W4 w.heap.size t (.slice B0 l0.length d0) (.slice A1 l1.length c1) fl from by rw [hW4]; exact blk_put (cs := #[.int .i64 t, .slice A0 l0.length c0, .slice A1 l1.length c1, .bool fl]) HBK.out 1 _ rfl)
  have PS := Aside0.mk (show w.heap.size + 3 ≤ W4.heap.size from by
    have h1 := HBK.out.lt
    have h2 := (Array.getElem?_eq_some_iff.1 ((HK.out (w.heap.size + 1 + 1) (by have := Q1.out; omega)).trans Q4.out)).1
    rw [hW4]
    simp
    omega)
  have P2 := Aside0.mk (show W4.heap[w.heap.size + 1]? = some (.cells #[.int .i64 1, .int .i64 b] 29 (0, 0)) from by rw [hW4, Below.heap_setCell _ _ _ _ (show w.heap.size + 1 ≠ w.heap.size by omega)]; exact (HK.out _ (by have := Q1.out; omega)).trans Q3.out)
  have P3 := Aside0.mk (show W4.heap[w.heap.size + 1 + 1]? = some (.cells #[.int .i64 0, .slice none 0 0, .slice none 0 0, .bool false] 24 (0, 0)) from by rw [hW4, Below.heap_setCell _ _ _ _ (show w.heap.size + 1 + 1 ≠ w.heap.size by omega)]; exact (HK.out _ (by have := Q1.out; omega)).trans Q4.out)
  have P4 := Aside0.mk (show Kd.R k38 38 W4 w.heap.size (fun k => w.heap.size + 3 ≤ k ∧ k < W4.heap.size) (.slice B0 l0.length d0) l0 from by
    have e : W4.heap.size = w1.heap.size := by rw [hW4]; simp
    rw [e, hW4]
    exact Kd.R_far (Kd.R_mono (Kd.R_bound HO.out) (fun k hk => ⟨hk.1, hk.2.2.1⟩)) (fun k hk => by have := hk.1; simp; omega) _)
  have P5 := Aside0.mk (show Below w.heap.size w W4 from by rw [hW4]; exact HB1.out.setCell (Nat.le_refl _) _)
  clear hW4 HBK hx1 hf1 HO HB1 HK Q0 Q1 Q2 Q3 Q4
  have hx2 : (W4.alloc (.cells #[] 38)).cell? ⟨w.heap.size, 2, none⟩ = some (.slice A1 l1.length c1) := ((below_alloc (Below.refl _ _) _).cell P1.out.lt).trans P1.out.c2
  go_upto_region 3 with ((with_reducible refine gate_builtin (b := .append) (xs := #[.tmp 12, .tmp 14]) rfl ?_); at_builtin; go_must (refine Kd.R_append_rows k38 (w0 := w) w.heap.size rfl (.tmp 12) (.tmp 14) 22 38 (.agg #[(.int .i64 0), (.int .i64 0), (.int .i64 0)]) 24 rfl Tryd.underlying22 info38 rfl (by decide) (by omega) _ [] l1 _ _ _ (fun k => W4.heap.size ≤ k) (fun _ => False) rfl rfl ?aO ?aR (fun _ _ h => h) (fun _ h => h.elim) ?aF ?aB ?aS ?aL ?_; (case aO => exact R_none W4 _ (by have := PS.out; omega)); (case aR => exact Kd.C_below H1.out (below_alloc P5.out _)); (case aF => exact fun k hk => by (simp at hk; omega)); (case aB => exact below_alloc P5.out _); (case aS => (have := PS.out; simp; omega)); (case aL => have := HL1.out; simp; omega); intro v1 w1 ho hb hg hat; rw [List.nil_append] at ho; obtain ⟨B1, d1, e0⟩ := Kd.R_slice ho; subst e0; have HO := Aside0.mk ho; have HB1 := Aside0.mk hb; have HR1 := Aside0.mk (Kd.R_grown (Kd.R_alloc P4.out _) hg (fun k hk => own_ne (by have := hk.2; omega))); have HK := Aside0.mk (show ∀ k, k < W4.heap.size → w1.heap[k]? = W4.heap[k]? from fun k hk => (hg.block k (by simp; omega) (own_ne (by omega))).trans ((below_alloc (Below.refl _ _) _).block k hk)); clear ho hb hg hat hx2; have HBK := Aside0.mk (show bookAt w1 w.heap.size t (.slice B0 l0.length d0) (.slice A1 l1.length c1) fl from (HK.out _ P1.out.lt).trans P1.out); have hx2 := HBK.out.c2; have hf2 : w1.frozen? ⟨w.heap.size, 2, none⟩ = false := frozen_of_row _ _ _ _ _ HBK.out))
  obtain ⟨W5, hW5⟩ : ∃ W5, W5 = w1.setCell ⟨w.heap.size, 2, none⟩ (.slice B1 l1.length d1) := ⟨_, rfl⟩
  rw [← hW5]
  have R1 := Aside0.mk (show bookAt W5 w.heap.size t (.slice B0 l0.length d0) (.slice B1 l1.length d1) fl from by rw [hW5]; exact blk_put (cs := #[.int .i64 t, .slice B0 l0.length d0, .slice A1 l1.length c1, .bool fl]) HBK.out 2 _ rfl)
  have R2 := Aside0.mk (show W5.heap[w.heap.size + 1]? = some (.cells #[.int .i64 1, .int .i64 b] 29 (0, 0)) from by rw [hW5, Below.heap_setCell _ _ _ _ (show w.heap.size + 1 ≠ w.heap.size by omega)]; exact (HK.out _ (by have := PS.out; omega)).trans P2.out)
  have R3 := Aside0.mk (show W5.heap[w.heap.size + 1 + 1]? = some (.cells #[.int .i64 0, .slice none 0 0, .slice none 0 0, .bool false] 24 (0, 0)) from by rw [hW5, Below.heap_setCell _ _ _ _ (show w.heap.size + 1 + 1 ≠ w.heap.size by omega)]; exact (HK.out _ (by have := PS.out; omega)).trans P3.out)
  have R4 := Aside0.mk (show Kd.R k38 38 W5 w.heap.size (fun k => w.heap.size + 3 ≤ k ∧ k < W4.heap.size) (.slice B0 l0.length d0) l0 from by
    rw [hW5]
    exact Kd.R_far HR1.out (fun k hk => by have := hk.1; simp; omega) _)
  have R5 := Aside0.mk (show Kd.R k38 38 W5 w.heap.size (fun k => W4.heap.size ≤ k) (.slice B1 l1.length d1) l1 from by
    rw [hW5]
    exact Kd.R_far HO.out (fun k hk => by have := PS.out; simp; omega) _)
  have R6 := Aside0.mk (show Below w.heap.size w W5 from by rw [hW5]; exact HB1.out.setCell (Nat.le_refl _) _)
  clear hW5 HBK hx2 hf2 HO HB1 HK HR1 P1 P2 P3 P4 P5
  have hy0 : W5.cell? ⟨w.heap.size + 1, 0, none⟩ = some (.int .i64 1) := by rw [cell_of_row _ _ _ _ _ _ R2.out]; rfl
  have hy1 : W5.cell? ⟨w.heap.size + 1, 1, none⟩ = some (.int .i64 b) := by rw [cell_of_row _ _ _ _ _ _ R2.out]; rfl
  obtain ⟨g, cg, eg, hg1, hg2, _⟩ := Kd.R_form R5.out (by have := HBI.out; omega)
  injection eg with eg1 eg2 eg3
  subst eg1 eg3
  have hE' : ∀ (args : Array Value) (w : World), Sem.run Tryd.prog (callFunc fid args) w = .ok (.enter fid args) w := hE
  go_wp2_with (go_at_call 55; refine (state_red_own W5 w.heap.size t g _ _ _ fl b R1.out HBI.out).mono ?_; rintro e W6 ⟨rfl, hB6⟩; have S1 := Aside0.mk (R1.out.below hB6 R1.out.lt); have S2 := Aside0.mk ((hB6.block _ (Array.getElem?_eq_some_iff.1 R3.out).1).trans R3.out); have S4 := Aside0.mk (Kd.R_below R4.out hB6); have S5 := Aside0.mk (Kd.R_below R5.out hB6); have S6 := Aside0.mk (below_step R6.out hB6); clear R1 R2 R3 R4 R5 R6 hB6 hy0 hy1)
  have hgo := S5.out.1 g rfl
  have hps := PS.out
  have hbi := HBI.out
  refine (HDO.out W6 w.heap.size g (b * 3) _ _ S1.out (taskAt_own S5.out b HBI.out) (by omega) (by omega) S6.out).mono ?_
  rintro e W7 ⟨rfl, q, hW7⟩
  have T1 := Aside0.mk (show bookAt W7 w.heap.size t _ _ fl' from by rw [hW7]; exact book_put4 S1.out s' fl' (by omega))
  have T2 := Aside0.mk (show W7.heap[w.heap.size + 1 + 1]? = some (.cells #[.int .i64 0, .slice none 0 0, .slice none 0 0, .bool false] 24 (0, 0)) from by
    rw [hW7]
    exact (put4_heap W6 g (b * 3) s' w.heap.size fl' _ (by omega) (by omega)).trans S2.out)
  have T4 := Aside0.mk (show Kd.R k38 38 W7 w.heap.size (fun k => w.heap.size + 3 ≤ k ∧ k < W4.heap.size) _ l0 from by
    rw [hW7]
    exact Kd.R_drewN (R_put4_far S4.out s' fl' (fun h => by have := h.2; omega) (fun h => by have := h.1; omega)) q)
  have T5 := Aside0.mk (show Kd.R k38 38 W7 w.heap.size (fun k => W4.heap.size ≤ k) _ (l1.set b s') from by
    rw [hW7]
    exact Kd.R_drewN (R_put4 S5.out b hbi s' fl' (fun h => by omega)) q)
  have T6 := Aside0.mk (show Below w.heap.size w W7 from by rw [hW7]; exact pw_below_drewN (below_put4 S6.out s' fl' (by omega) (Nat.le_refl _)) q)
  clear hW7 S1 S2 S4 S5 S6
  have hz0 := T1.out.c0
  have hz1 := T1.out.c1
  have hz2 := T1.out.c2
  have hz3 := T1.out.c3
  have hc0 : W7.cell? ⟨w.heap.size + 1 + 1, 0, none⟩ = some (.int .i64 0) := by rw [cell_of_row _ _ _ _ _ _ T2.out]; rfl
  have hc1 : W7.cell? ⟨w.heap.size + 1 + 1, 1, none⟩ = some (.slice none 0 0) := by rw [cell_of_row _ _ _ _ _ _ T2.out]; rfl
  have hc2 : W7.cell? ⟨w.heap.size + 1 + 1, 2, none⟩ = some (.slice none 0 0) := by rw [cell_of_row _ _ _ _ _ _ T2.out]; rfl
  have hc3 : W7.cell? ⟨w.heap.size + 1 + 1, 3, none⟩ = some (.bool false) := by rw [cell_of_row _ _ _ _ _ _ T2.out]; rfl
  have hf0 : W7.frozen? ⟨w.heap.size + 1 + 1, 0, none⟩ = false := frozen_of_row _ _ _ _ _ T2.out
  have hf1 : W7.frozen? ⟨w.heap.size + 1 + 1, 1, none⟩ = false := frozen_of_row _ _ _ _ _ T2.out
  have hf2 : W7.frozen? ⟨w.heap.size + 1 + 1, 2, none⟩ = false := frozen_of_row _ _ _ _ _ T2.out
  have hf3 : W7.frozen? ⟨w.heap.size + 1 + 1, 3, none⟩ = false := frozen_of_row _ _ _ _ _ T2.out
  clear hgo hps hbi
  go_wp2_with fail
  refine bodyPost_ret (results_cell_row rfl _ _ (w.heap.size + 1 + 1) 24 #[.int .i64 t, .slice B0 l0.length d0, .slice (some ⟨g, 0, none⟩) l1.length d1, .bool fl'] (0, 0) _ rfl (by refine blk_put (cs := #[.int .i64 t, .slice B0 l0.length d0, .slice (some ⟨g, 0, none⟩) l1.length d1, .bool false]) ?_ 3 _ rfl; refine blk_put (cs := #[.int .i64 t, .slice B0 l0.length d0, .slice none 0 0, .bool false]) ?_ 2 _ rfl; refine blk_put (cs := #[.int .i64 t, .slice none 0 0, .slice none 0 0, .bool false]) ?_ 1 _ rfl; refine blk_put (cs := #[.int .i64 0, .slice none 0 0, .slice none 0 0, .bool false]) ?_ 0 _ rfl; exact T2.out) Tryd.underlying24 rfl (by kernel_rfl)) rfl ?_
  have hps := PS.out
  refine ⟨_, _, rfl, ?_, ?_, (((T6.out.setCell (by simp; omega) _).setCell (by simp; omega) _).setCell (by simp; omega) _).setCell (by simp; omega) _⟩
  · exact Kd.R_mono (Kd.R_far (p := ⟨w.heap.size + 1 + 1, 3, none⟩) (Kd.R_far (p := ⟨w.heap.size + 1 + 1, 2, none⟩) (Kd.R_far (p := ⟨w.heap.size + 1 + 1, 1, none⟩) (Kd.R_far (p := ⟨w.heap.size + 1 + 1, 0, none⟩) T4.out (fun k hk => by have := hk.1; simp; omega) _) (fun k hk => by have := hk.1; simp; omega) _) (fun k hk => by have := hk.1; simp; omega) _) (fun k hk => by have := hk.1; simp; omega) _) (fun k hk e => by have := T5.out.1 k e.symm; have := hk.2; omega)
  · exact Kd.R_mono (Kd.R_far (p := ⟨w.heap.size + 1 + 1, 3, none⟩) (Kd.R_far (p := ⟨w.heap.size + 1 + 1, 2, none⟩) (Kd.R_far (p := ⟨w.heap.size + 1 + 1, 1, none⟩) (Kd.R_far (p := ⟨w.heap.size + 1 + 1, 0, none⟩) T5.out (fun k hk => by simp; omega) _) (fun k hk => by simp; omega) _) (fun k hk => by simp; omega) _) (fun k hk => by simp; omega) _) (fun k hk e => by have := (T4.out.1 k e.symm).2; omega)
end Go.Proofs.YtponmfnegdlppaaDoor.P

end
section
/- ledger.known, by hand (printed by HKnown.gen.py). -/
namespace Go.Proofs.YtponmfnegdlppaaDoor.P
open Go.RowKit Go.Proofs.YtponmfnegdlppaaDoorW.PrintWords Go.Proofs.YtponmfnegdlppaaDoorW.PrintLast Go.Proofs.YtponmfnegdlppaaDoorW.PrintMore
set_option linter.unusedVariables false
set_option linter.unusedSimpArgs false

def roomT (n0 n1 : Nat) (k : Int) : Int := if k = 0 then (n0 : Int) else if k = 1 then (n1 : Int) else 0
def okT (n0 n1 : Nat) (x : S29) : Bool := !(decide (x.f1 < 0)) && !(decide (roomT n0 n1 x.f0 ≤ x.f1))
def scanT (n0 n1 : Nat) : List S29 → Int
  | [] => 0
  | x :: l => if okT n0 n1 x = true then scanT n0 n1 l else 191
def knownP (t : Int) (l0 l1 : List S38) (fl : Bool) (ts : List S29) : Int := if checkP t l0 l1 fl = 0 then scanT l0.length l1.length ts else checkP t l0 l1 fl
theorem rd29 (l : List S29) (i : Nat) (h : i < l.length) : rd_T29 l (i : Int) = l[i] := by
  unfold rd_T29
  rw [Int.toNat_natCast, List.getD_eq_getElem?_getD, List.getElem?_eq_getElem h]
  rfl
theorem drop29 (l : List S29) (i : Nat) (h : i < l.length) : l.drop i = rd_T29 l (i : Int) :: l.drop (i + 1) := by
  rw [rd29 l i h]
  exact List.drop_eq_getElem_cons h

set_option maxHeartbeats 4000000 in
set_option maxRecDepth 100000 in
theorem known_any (t : Int) (fl : Bool) (A0 : Option Addr) (c0 : Nat) (l0 : List S38) (A1 : Option Addr) (c1 : Nat) (l1 : List S38) (A : Option Addr) (c : Nat) (ts : List S29) (w : World) (h0 : Kd.C k38 w A0 l0.length l0) (h1 : Kd.C k38 w A1 l1.length l1) (hts : Kd.C k29 w A ts.length ts) (hl : ts.length ≤ 100) (hl0 : l0.length ≤ 6000000000000) (hl1 : l1.length ≤ 6000000000000) (hT : Tab w) :
    Calls Tryd.prog 54 #[.agg #[.int .i64 t, .slice A0 l0.length c0, .slice A1 l1.length c1, .bool fl], .slice A ts.length c] w fun e w' => e = .returned (.int .i64 (knownP t l0 l1 fl ts)) ∧ Below w.heap.size w w' := by
  have hba := below_alloc (Below.refl w.heap.size w) (.cells #[.int .i64 t, .slice A0 l0.length c0, .slice A1 l1.length c1, .bool fl] 24)
  have hbk : bookAt (w.alloc (.cells #[.int .i64 t, .slice A0 l0.length c0, .slice A1 l1.length c1, .bool fl] 24)) w.heap.size t (.slice A0 l0.length c0) (.slice A1 l1.length c1) fl := heap_alloc_new w _
  have hcall := check_any t fl A0 c0 l0 A1 c1 l1 (w.alloc (.cells #[.int .i64 t, .slice A0 l0.length c0, .slice A1 l1.length c1, .bool fl] 24)) (Kd.C_below h0 hba) (Kd.C_below h1 hba) (hT.below hba)
  have HCA := Aside0.mk hcall
  have HBA := Aside0.mk hba
  have HBK := Aside0.mk hbk
  have HTS := Aside0.mk hts
  obtain ⟨r, hr⟩ : ∃ r, knownP t l0 l1 fl ts = r := ⟨_, rfl⟩
  rw [hr]
  have HR := Aside0.mk hr
  clear hcall hba hbk hts h0 h1 hT hr
  generalize hn0 : l0.length = n0 at *
  generalize hn1 : l1.length = n1 at *
  generalize hnt : ts.length = nt at *
  have HN0 := Aside0.mk hn0
  have HN1 := Aside0.mk hn1
  have HNT := Aside0.mk hnt
  clear hn0 hn1 hnt
  have hu22 := Tryd.underlying22
  have hu38 := Tryd.underlying38
  have hu24 := Tryd.underlying24
  have hu26 := Tryd.underlying26
  have hu29 := Tryd.underlying29
  have hz0 := HBK.out.c0
  have hz1 := HBK.out.c1
  have hz2 := HBK.out.c2
  have hz3 := HBK.out.c3
  by_cases hc : checkP t l0 l1 fl = 0
  · have hr := HR.out
    unfold knownP at hr
    rw [if_pos hc, HN0.out, HN1.out] at hr
    have hcall := HCA.out
    rw [hc] at hcall
    have HCA2 := Aside0.mk hcall
    have HR2 := Aside0.mk hr
    clear hr hcall hc HCA HR
    go_enter Tryd.func54, Tryd.ntmps54
    go_wp2_with (go_at_call 15; refine HCA2.out.mono ?_; rintro e W2 ⟨rfl, hB2⟩; have HB2 := Aside0.mk (HBK.out.below hB2 HBK.out.lt); have HA2 := Aside0.mk (below_step HBA.out hB2); clear hB2 HBK HBA hz0 hz1 hz2 hz3)
    clear HCA2
    go_loopw [16] (fun vi wr => ∃ i : Nat, i ≤ nt ∧ vi = .int .i64 i ∧ Aside0 (scanT n0 n1 (ts.drop i) = r) ∧ Aside0 (bookAt wr w.heap.size t (.slice A0 n0 c0) (.slice A1 n1 c1) fl) ∧ Aside0 (Below w.heap.size w wr)) (fun vi _ => nt - (intOf vi).toNat)
    case atStart => exact ⟨0, by omega, rfl, by rw [List.drop_zero]; exact HR2, HB2, HA2⟩
    case round =>
      clear HR2 HB2 HA2
      obtain ⟨i, hi, rfl, HR, HBK, HBA⟩ := hrel
      by_cases hlt : i < nt
      · have hd1 : decide ((i : Int) < (nt : Int)) = true := by simp; omega
        have hd2 : decide (i < nt) = true := by simp; omega
        have hr := HR.out
        have hil : i < ts.length := by have := HNT.out; omega
        rw [drop29 ts i hil] at hr
        obtain ⟨ad, e, hx0, hx1⟩ := at_T29 HTS.out (i : Int) (by omega) (by have := HNT.out; omega)
        subst e
        generalize rd_T29 ts (i : Int) = s at *
        rw [Int.toNat_natCast] at hx0 hx1
        replace hx0 := (HBA.out.cell (World.block_lt_of_cell? w _ hx0)).trans hx0
        replace hx1 := (HBA.out.cell (World.block_lt_of_cell? w _ hx1)).trans hx1
        have HS := Aside0.mk hr
        obtain ⟨k, b⟩ := s
        dsimp only at *
        have hbk := HBK.out
        have hba := HBA.out
        have hya := below_alloc (Below.refl wr.heap.size wr) (.cells #[.int .i64 k, .int .i64 b] 29)
        have HB2 := Aside0.mk (hbk.below hya hbk.lt)
        have HA2 := Aside0.mk (below_step hba hya)
        have hq1 := HB2.out.c1
        have hq2 := HB2.out.c2
        clear hr hya hbk hba HR
        by_cases g0 : k = 0
        · have e0 : (k == 0) = true := by simp; omega
          have hrm : roomT n0 n1 k = (n0 : Int) := by unfold roomT; rw [if_pos g0]
          by_cases b1 : b < 0
          · have d1 : decide (b < 0) = true := decide_eq_true b1
            have hr := HS.out
            have hg : okT n0 n1 ⟨k, b⟩ = false := by unfold okT; rw [hrm]; simp <;> omega
            rw [scanT, if_neg (by rw [hg]; decide)] at hr
            subst hr
            clear HS hg hrm g0
            go_wp2_with fail
            go_ret
            exact ⟨rfl, HA2.out⟩
          have d1 : decide (b < 0) = false := decide_eq_false b1
          by_cases b2 : (n0 : Int) ≤ b
          · have d2 : decide ((n0 : Int) ≤ b) = true := decide_eq_true b2
            have hr := HS.out
            have hg : okT n0 n1 ⟨k, b⟩ = false := by unfold okT; rw [hrm]; simp <;> omega
            rw [scanT, if_neg (by rw [hg]; decide)] at hr
            subst hr
            clear HS hg hrm g0
            go_wp2_with fail
            go_ret
            exact ⟨rfl, HA2.out⟩
          have d2 : decide ((n0 : Int) ≤ b) = false := decide_eq_false b2
          have hr := HS.out
          have hg : okT n0 n1 ⟨k, b⟩ = true := by unfold okT; rw [hrm]; simp <;> omega
          rw [scanT, if_pos hg] at hr
          have HR2 := Aside0.mk hr
          clear hr hg HS hrm b1 b2 g0
          go_wp2_with fail
          go_roundw
          case rel => exact ⟨i + 1, by omega, by go_num, HR2, HB2, HA2⟩
          case measure => simp [intOf]; omega
        · have e0 : (k == 0) = false := by simp; omega
          by_cases g1 : k = 1
          · have e1 : (k == 1) = true := by simp; omega
            have hrm : roomT n0 n1 k = (n1 : Int) := by unfold roomT; rw [if_neg g0, if_pos g1]
            by_cases b1 : b < 0
            · have d1 : decide (b < 0) = true := decide_eq_true b1
              have hr := HS.out
              have hg : okT n0 n1 ⟨k, b⟩ = false := by unfold okT; rw [hrm]; simp <;> omega
              rw [scanT, if_neg (by rw [hg]; decide)] at hr
              subst hr
              clear HS hg hrm g0 g1
              go_wp2_with fail
              go_ret
              exact ⟨rfl, HA2.out⟩
            have d1 : decide (b < 0) = false := decide_eq_false b1
            by_cases b2 : (n1 : Int) ≤ b
            · have d2 : decide ((n1 : Int) ≤ b) = true := decide_eq_true b2
              have hr := HS.out
              have hg : okT n0 n1 ⟨k, b⟩ = false := by unfold okT; rw [hrm]; simp <;> omega
              rw [scanT, if_neg (by rw [hg]; decide)] at hr
              subst hr
              clear HS hg hrm g0 g1
              go_wp2_with fail
              go_ret
              exact ⟨rfl, HA2.out⟩
            have d2 : decide ((n1 : Int) ≤ b) = false := decide_eq_false b2
            have hr := HS.out
            have hg : okT n0 n1 ⟨k, b⟩ = true := by unfold okT; rw [hrm]; simp <;> omega
            rw [scanT, if_pos hg] at hr
            have HR2 := Aside0.mk hr
            clear hr hg HS hrm b1 b2 g0 g1
            go_wp2_with fail
            go_roundw
            case rel => exact ⟨i + 1, by omega, by go_num, HR2, HB2, HA2⟩
            case measure => simp [intOf]; omega
          · have e1 : (k == 1) = false := by simp; omega
            have hrm : roomT n0 n1 k = 0 := by unfold roomT; rw [if_neg g0, if_neg g1]
            by_cases b1 : b < 0
            · have d1 : decide (b < 0) = true := decide_eq_true b1
              have hr := HS.out
              have hg : okT n0 n1 ⟨k, b⟩ = false := by unfold okT; rw [hrm]; simp <;> omega
              rw [scanT, if_neg (by rw [hg]; decide)] at hr
              subst hr
              clear HS hg hrm g0 g1
              go_wp2_with fail
              go_ret
              exact ⟨rfl, HA2.out⟩
            have d1 : decide (b < 0) = false := decide_eq_false b1
            by_cases b2 : 0 ≤ b
            · have d2 : decide (0 ≤ b) = true := decide_eq_true b2
              have hr := HS.out
              have hg : okT n0 n1 ⟨k, b⟩ = false := by unfold okT; rw [hrm]; simp <;> omega
              rw [scanT, if_neg (by rw [hg]; decide)] at hr
              subst hr
              clear HS hg hrm g0 g1
              go_wp2_with fail
              go_ret
              exact ⟨rfl, HA2.out⟩
            have d2 : decide (0 ≤ b) = false := decide_eq_false b2
            have hr := HS.out
            have hg : okT n0 n1 ⟨k, b⟩ = true := by unfold okT; rw [hrm]; simp <;> omega
            rw [scanT, if_pos hg] at hr
            have HR2 := Aside0.mk hr
            clear hr hg HS hrm b1 b2 g0 g1
            go_wp2_with fail
            go_roundw
            case rel => exact ⟨i + 1, by omega, by go_num, HR2, HB2, HA2⟩
            case measure => simp [intOf]; omega
      · obtain rfl : i = nt := by omega
        have hd1 : decide ((i : Int) < (i : Int)) = false := by simp
        have hr := HR.out
        rw [List.drop_eq_nil_of_le (by have := HNT.out; omega)] at hr
        obtain rfl : (0 : Int) = r := hr
        clear HR
        go_wp2_with fail
        go_ret
        exact ⟨rfl, HBA.out⟩
  · have hr := HR.out
    unfold knownP at hr
    rw [if_neg hc] at hr
    have hcall := HCA.out
    rw [hr] at hcall
    have hne : (r != 0) = true := by rw [← hr]; exact bne_iff_ne.2 hc
    have HCA2 := Aside0.mk hcall
    clear hr hcall hc HCA HR
    go_enter Tryd.func54, Tryd.ntmps54
    go_wp2_with (go_at_call 15; refine HCA2.out.mono ?_; rintro e W2 ⟨rfl, hB2⟩; have HA2 := Aside0.mk (below_step HBA.out hB2); clear hB2 HBK HBA hz0 hz1 hz2 hz3)
    go_ret
    exact ⟨rfl, HA2.out⟩
end Go.Proofs.YtponmfnegdlppaaDoor.P

end
section
/- ledger.ended, by hand (printed by HEnded.gen.py). -/
namespace Go.Proofs.YtponmfnegdlppaaDoor.P
open Go.RowKit Go.Proofs.YtponmfnegdlppaaDoorW.PrintWords Go.Proofs.YtponmfnegdlppaaDoorW.PrintLast Go.Proofs.YtponmfnegdlppaaDoorW.PrintMore
set_option linter.unusedVariables false
set_option linter.unusedSimpArgs false

theorem C_one (W : World) (k b : Int) : Kd.C k29 (W.alloc (.cells #[.int .i64 k, .int .i64 b] 29)) (some ⟨W.heap.size, 0, none⟩) 1 [⟨k, b⟩] := by
  have h : Kd.R k29 29 (W.alloc (.cells #[.int .i64 k, .int .i64 b] 29)) W.heap.size (fun _ => True) (.slice (some ⟨W.heap.size, 0, none⟩) 1 1) [⟨k, b⟩] :=
    ⟨fun _ _ => trivial, [.int .i64 k, .int .i64 b], World.ownsRow_lit (base := W.heap.size) (e := 29) (size := k29.sz) W #[.int .i64 k, .int .i64 b] 1 (Nat.le_refl _) (by simp [maxLen]) (by rfl), Reps.c2 (k29_mkM _ _ _ ⟨k, b⟩) (Reps.none _ _)⟩
  exact (Kd.R_reads' h).2.2
/-- the three blocks that a call over a book and a task lays first -/
structure lays3 (w W3 : World) (t : Int) (u0 u1 : Value) (fl : Bool) (k b : Int) : Prop where
  q0 : Below w.heap.size w W3
  q1 : W3.heap.size = w.heap.size + 3
  q2 : bookAt W3 w.heap.size t u0 u1 fl
  q3 : W3.heap[w.heap.size + 1]? = some (.cells #[.int .i64 k, .int .i64 b] 29 (0, 0))
  q4 : W3.heap[w.heap.size + 1 + 1]? = some (.cells #[.int .i64 0, .slice none 0 0, .slice none 0 0, .bool false] 24 (0, 0))
def w3of (w : World) (t : Int) (u0 u1 : Value) (fl : Bool) (k b : Int) : World := ((w.alloc (.cells #[.int .i64 t, u0, u1, .bool fl] 24)).alloc (.cells #[.int .i64 k, .int .i64 b] 29)).alloc (.cells #[.int .i64 0, .slice none 0 0, .slice none 0 0, .bool false] 24)
theorem lays3_of (w : World) (t : Int) (u0 u1 : Value) (fl : Bool) (k b : Int) : lays3 w (w3of w t u0 u1 fl k b) t u0 u1 fl k b := by
  unfold w3of
  refine ⟨below_alloc (below_alloc (below_alloc (Below.refl _ _) _) _) _, by simp, ?_, ?_, ?_⟩
  · have e1 := heap_alloc_new w (.cells #[.int .i64 t, u0, u1, .bool fl] 24)
    exact ((below_alloc (below_alloc (Below.refl _ _) _) _).block w.heap.size (by simp)).trans e1
  · have e1 := heap_alloc_new (w.alloc (.cells #[.int .i64 t, u0, u1, .bool fl] 24)) (.cells #[.int .i64 k, .int .i64 b] 29)
    rw [show (w.alloc (.cells #[.int .i64 t, u0, u1, .bool fl] 24)).heap.size = w.heap.size + 1 from by simp] at e1
    exact ((below_alloc (Below.refl _ _) _).block (w.heap.size + 1) (by simp)).trans e1
  · have e1 := heap_alloc_new ((w.alloc (.cells #[.int .i64 t, u0, u1, .bool fl] 24)).alloc (.cells #[.int .i64 k, .int .i64 b] 29)) (.cells #[.int .i64 0, .slice none 0 0, .slice none 0 0, .bool false] 24)
    rw [show ((w.alloc (.cells #[.int .i64 t, u0, u1, .bool fl] 24)).alloc (.cells #[.int .i64 k, .int .i64 b] 29)).heap.size = w.heap.size + 1 + 1 from by simp] at e1
    exact e1
theorem lays3.below {w W3 W : World} {t : Int} {u0 u1 : Value} {fl : Bool} {k b : Int} (h : lays3 w W3 t u0 u1 fl k b) (hb : Below W3.heap.size W3 W) :
    bookAt W w.heap.size t u0 u1 fl ∧ W.heap[w.heap.size + 1]? = some (.cells #[.int .i64 k, .int .i64 b] 29 (0, 0)) ∧ W.heap[w.heap.size + 1 + 1]? = some (.cells #[.int .i64 0, .slice none 0 0, .slice none 0 0, .bool false] 24 (0, 0)) ∧ Below w.heap.size w W ∧ w.heap.size + 3 ≤ W.heap.size :=
  ⟨h.q2.below hb h.q2.lt, (hb.block _ (by have := h.q1; omega)).trans h.q3, (hb.block _ (by have := h.q1; omega)).trans h.q4, below_step h.q0 hb, by have := hb.size; have := h.q1; omega⟩

set_option maxHeartbeats 4000000 in
set_option maxRecDepth 100000 in
theorem ended_bad (fid : Nat) (cap : Array Value) (hE : Enters Tryd.prog fid) (t : Int) (fl : Bool) (A0 : Option Addr) (c0 : Nat) (l0 : List S38) (A1 : Option Addr) (c1 : Nat) (l1 : List S38) (k b : Int) (w : World)
    (h0 : Kd.C k38 w A0 l0.length l0) (h1 : Kd.C k38 w A1 l1.length l1) (hl0 : l0.length ≤ 6000000000000) (hl1 : l1.length ≤ 6000000000000) (hT : Tab w) (e : Int) (he : knownP t l0 l1 fl [⟨k, b⟩] = e) (hne : e ≠ 0) :
    Calls Tryd.prog 45 #[.agg #[.int .i64 t, .slice A0 l0.length c0, .slice A1 l1.length c1, .bool fl], .agg #[.int .i64 k, .int .i64 b], .func (.func fid) #[] cap] w fun e_ w' => e_ = .returned (.tuple #[.agg #[.int .i64 0, .slice none 0 0, .slice none 0 0, .bool false], .int .i64 e]) ∧ Below w.heap.size w w' := by
  have hl3 := lays3_of w t (.slice A0 l0.length c0) (.slice A1 l1.length c1) fl k b
  have hba : Below w.heap.size w ((w3of w t (.slice A0 l0.length c0) (.slice A1 l1.length c1) fl k b).alloc (.cells #[.int .i64 k, .int .i64 b] 29)) := below_alloc hl3.q0 _
  have hkn := known_any t fl A0 c0 l0 A1 c1 l1 (some ⟨(w3of w t (.slice A0 l0.length c0) (.slice A1 l1.length c1) fl k b).heap.size, 0, none⟩) 1 [⟨k, b⟩] ((w3of w t (.slice A0 l0.length c0) (.slice A1 l1.length c1) fl k b).alloc (.cells #[.int .i64 k, .int .i64 b] 29)) (Kd.C_below h0 hba) (Kd.C_below h1 hba) (C_one (w3of w t (.slice A0 l0.length c0) (.slice A1 l1.length c1) fl k b) k b) (by simp) hl0 hl1 (hT.below hba)
  rw [he] at hkn
  have H0 := Aside0.mk h0
  have H1 := Aside0.mk h1
  obtain ⟨W3, hW3⟩ : ∃ W3, (w3of w t (.slice A0 l0.length c0) (.slice A1 l1.length c1) fl k b) = W3 := ⟨_, rfl⟩
  rw [hW3] at hl3 hba hkn
  unfold w3of at hW3
  have HW3 := Aside0.mk hW3
  have HL := Aside0.mk hl3
  have HKN := Aside0.mk hkn
  have ha := below_alloc (Below.refl W3.heap.size W3) (.cells #[.int .i64 k, .int .i64 b] 29)
  have HBA := Aside0.mk ha
  clear hba hkn h0 h1 he hl3 hT hl0 hl1 ha hW3
  have hu22 := Tryd.underlying22
  have hu29 := Tryd.underlying29
  have hu24 := Tryd.underlying24
  have hu38 := Tryd.underlying38
  have hu26 := Tryd.underlying26
  have hz0 := HL.out.q2.c0
  have hz1 := HL.out.q2.c1
  have hz2 := HL.out.q2.c2
  have hz3 := HL.out.q2.c3
  have hy0 : W3.cell? ⟨w.heap.size + 1, 0, none⟩ = some (.int .i64 k) := (blk_cell HL.out.q3 0).trans rfl
  have hy1 : W3.cell? ⟨w.heap.size + 1, 1, none⟩ = some (.int .i64 b) := (blk_cell HL.out.q3 1).trans rfl
  go_enter Tryd.func45, Tryd.ntmps45
  go_upto_region 1 with (fail)
  rw [HW3.out]
  clear HW3
  have hn1 : (e != 0) = true := bne_iff_ne.2 hne
  clear hne
  go_wp2_with (go_at_call 54; go_must (refine HKN.out.mono ?_; rintro e_ W4 ⟨rfl, hB4⟩; have HF := Aside0.mk (HL.out.below (below_step HBA.out hB4)); clear hB4 HL HKN HBA hz0 hz1 hz2 hz3 hy0 hy1; have hx3 := HF.out.1.c3; have hc0 : W4.cell? ⟨w.heap.size + 1 + 1, 0, none⟩ = some (.int .i64 0) := (blk_cell HF.out.2.2.1 0).trans rfl; have hc1 : W4.cell? ⟨w.heap.size + 1 + 1, 1, none⟩ = some (.slice none 0 0) := (blk_cell HF.out.2.2.1 1).trans rfl; have hc2 : W4.cell? ⟨w.heap.size + 1 + 1, 2, none⟩ = some (.slice none 0 0) := (blk_cell HF.out.2.2.1 2).trans rfl; have hc3 : W4.cell? ⟨w.heap.size + 1 + 1, 3, none⟩ = some (.bool false) := (blk_cell HF.out.2.2.1 3).trans rfl; have hf0 : W4.frozen? ⟨w.heap.size + 1 + 1, 0, none⟩ = false := frozen_of_row _ _ _ _ _ HF.out.2.2.1; have hf1 : W4.frozen? ⟨w.heap.size + 1 + 1, 1, none⟩ = false := frozen_of_row _ _ _ _ _ HF.out.2.2.1; have hf2 : W4.frozen? ⟨w.heap.size + 1 + 1, 2, none⟩ = false := frozen_of_row _ _ _ _ _ HF.out.2.2.1; have hf3 : W4.frozen? ⟨w.heap.size + 1 + 1, 3, none⟩ = false := frozen_of_row _ _ _ _ _ HF.out.2.2.1))
  refine bodyPost_ret (results_ct rfl _ _ (w.heap.size + 1 + 1) 24 #[.int .i64 0, .slice none 0 0, .slice none 0 0, .bool false] (0, 0) _ rfl (by refine blk_put (cs := #[.int .i64 0, .slice none 0 0, .slice none 0 0, .bool false]) ?_ 3 _ rfl; refine blk_put (cs := #[.int .i64 0, .slice none 0 0, .slice none 0 0, .bool false]) ?_ 2 _ rfl; refine blk_put (cs := #[.int .i64 0, .slice none 0 0, .slice none 0 0, .bool false]) ?_ 1 _ rfl; refine blk_put (cs := #[.int .i64 0, .slice none 0 0, .slice none 0 0, .bool false]) ?_ 0 _ rfl; exact HF.out.2.2.1) Tryd.underlying24 rfl (by kernel_rfl)) rfl ?_
  exact ⟨rfl, (((HF.out.2.2.2.1.setCell (by simp; omega) _).setCell (by simp; omega) _).setCell (by simp; omega) _).setCell (by simp; omega) _⟩

set_option maxHeartbeats 4000000 in
set_option maxRecDepth 100000 in
theorem ended_failed_map (fid : Nat) (cap : Array Value) (hE : Enters Tryd.prog fid) (t : Int) (fl : Bool) (A0 : Option Addr) (c0 : Nat) (l0 : List S38) (A1 : Option Addr) (c1 : Nat) (l1 : List S38) (b : Nat) (w : World)
    (h0 : Kd.C k38 w A0 l0.length l0) (h1 : Kd.C k38 w A1 l1.length l1) (hl0 : l0.length ≤ 6000000000000) (hl1 : l1.length ≤ 6000000000000) (hT : Tab w) (he : knownP t l0 l1 fl [⟨0, b⟩] = 0) (hfl : fl = true) :
    Calls Tryd.prog 45 #[.agg #[.int .i64 t, .slice A0 l0.length c0, .slice A1 l1.length c1, .bool fl], .agg #[.int .i64 0, .int .i64 b], .func (.func fid) #[] cap] w fun e_ w' => e_ = .returned (.tuple #[.agg #[.int .i64 0, .slice none 0 0, .slice none 0 0, .bool false], .int .i64 192]) ∧ Below w.heap.size w w' := by
  subst hfl
  have hl3 := lays3_of w t (.slice A0 l0.length c0) (.slice A1 l1.length c1) true 0 b
  have hba : Below w.heap.size w ((w3of w t (.slice A0 l0.length c0) (.slice A1 l1.length c1) true 0 b).alloc (.cells #[.int .i64 0, .int .i64 b] 29)) := below_alloc hl3.q0 _
  have hkn := known_any t true A0 c0 l0 A1 c1 l1 (some ⟨(w3of w t (.slice A0 l0.length c0) (.slice A1 l1.length c1) true 0 b).heap.size, 0, none⟩) 1 [⟨0, b⟩] ((w3of w t (.slice A0 l0.length c0) (.slice A1 l1.length c1) true 0 b).alloc (.cells #[.int .i64 0, .int .i64 b] 29)) (Kd.C_below h0 hba) (Kd.C_below h1 hba) (C_one (w3of w t (.slice A0 l0.length c0) (.slice A1 l1.length c1) true 0 b) 0 b) (by simp) hl0 hl1 (hT.below hba)
  rw [he] at hkn
  have H0 := Aside0.mk h0
  have H1 := Aside0.mk h1
  obtain ⟨W3, hW3⟩ : ∃ W3, (w3of w t (.slice A0 l0.length c0) (.slice A1 l1.length c1) true 0 b) = W3 := ⟨_, rfl⟩
  rw [hW3] at hl3 hba hkn
  unfold w3of at hW3
  have HW3 := Aside0.mk hW3
  have HL := Aside0.mk hl3
  have HKN := Aside0.mk hkn
  have ha := below_alloc (Below.refl W3.heap.size W3) (.cells #[.int .i64 0, .int .i64 b] 29)
  have HBA := Aside0.mk ha
  clear hba hkn h0 h1 he hl3 hT hl0 hl1 ha hW3
  have hu22 := Tryd.underlying22
  have hu29 := Tryd.underlying29
  have hu24 := Tryd.underlying24
  have hu38 := Tryd.underlying38
  have hu26 := Tryd.underlying26
  have hz0 := HL.out.q2.c0
  have hz1 := HL.out.q2.c1
  have hz2 := HL.out.q2.c2
  have hz3 := HL.out.q2.c3
  have hy0 : W3.cell? ⟨w.heap.size + 1, 0, none⟩ = some (.int .i64 0) := (blk_cell HL.out.q3 0).trans rfl
  have hy1 : W3.cell? ⟨w.heap.size + 1, 1, none⟩ = some (.int .i64 b) := (blk_cell HL.out.q3 1).trans rfl
  go_enter Tryd.func45, Tryd.ntmps45
  go_upto_region 1 with (fail)
  rw [HW3.out]
  clear HW3
  go_wp2_with (go_at_call 54; go_must (refine HKN.out.mono ?_; rintro e_ W4 ⟨rfl, hB4⟩; have HF := Aside0.mk (HL.out.below (below_step HBA.out hB4)); clear hB4 HL HKN HBA hz0 hz1 hz2 hz3 hy0 hy1; have hx3 := HF.out.1.c3; have hc0 : W4.cell? ⟨w.heap.size + 1 + 1, 0, none⟩ = some (.int .i64 0) := (blk_cell HF.out.2.2.1 0).trans rfl; have hc1 : W4.cell? ⟨w.heap.size + 1 + 1, 1, none⟩ = some (.slice none 0 0) := (blk_cell HF.out.2.2.1 1).trans rfl; have hc2 : W4.cell? ⟨w.heap.size + 1 + 1, 2, none⟩ = some (.slice none 0 0) := (blk_cell HF.out.2.2.1 2).trans rfl; have hc3 : W4.cell? ⟨w.heap.size + 1 + 1, 3, none⟩ = some (.bool false) := (blk_cell HF.out.2.2.1 3).trans rfl; have hf0 : W4.frozen? ⟨w.heap.size + 1 + 1, 0, none⟩ = false := frozen_of_row _ _ _ _ _ HF.out.2.2.1; have hf1 : W4.frozen? ⟨w.heap.size + 1 + 1, 1, none⟩ = false := frozen_of_row _ _ _ _ _ HF.out.2.2.1; have hf2 : W4.frozen? ⟨w.heap.size + 1 + 1, 2, none⟩ = false := frozen_of_row _ _ _ _ _ HF.out.2.2.1; have hf3 : W4.frozen? ⟨w.heap.size + 1 + 1, 3, none⟩ = false := frozen_of_row _ _ _ _ _ HF.out.2.2.1))
  refine bodyPost_ret (results_ct rfl _ _ (w.heap.size + 1 + 1) 24 #[.int .i64 0, .slice none 0 0, .slice none 0 0, .bool false] (0, 0) _ rfl (by refine blk_put (cs := #[.int .i64 0, .slice none 0 0, .slice none 0 0, .bool false]) ?_ 3 _ rfl; refine blk_put (cs := #[.int .i64 0, .slice none 0 0, .slice none 0 0, .bool false]) ?_ 2 _ rfl; refine blk_put (cs := #[.int .i64 0, .slice none 0 0, .slice none 0 0, .bool false]) ?_ 1 _ rfl; refine blk_put (cs := #[.int .i64 0, .slice none 0 0, .slice none 0 0, .bool false]) ?_ 0 _ rfl; exact HF.out.2.2.1) Tryd.underlying24 rfl (by kernel_rfl)) rfl ?_
  exact ⟨rfl, (((HF.out.2.2.2.1.setCell (by simp; omega) _).setCell (by simp; omega) _).setCell (by simp; omega) _).setCell (by simp; omega) _⟩

set_option maxHeartbeats 4000000 in
set_option maxRecDepth 100000 in
theorem ended_failed_red (fid : Nat) (cap : Array Value) (hE : Enters Tryd.prog fid) (t : Int) (fl : Bool) (A0 : Option Addr) (c0 : Nat) (l0 : List S38) (A1 : Option Addr) (c1 : Nat) (l1 : List S38) (b : Nat) (w : World)
    (h0 : Kd.C k38 w A0 l0.length l0) (h1 : Kd.C k38 w A1 l1.length l1) (hl0 : l0.length ≤ 6000000000000) (hl1 : l1.length ≤ 6000000000000) (hT : Tab w) (he : knownP t l0 l1 fl [⟨1, b⟩] = 0) (hfl : fl = true) :
    Calls Tryd.prog 45 #[.agg #[.int .i64 t, .slice A0 l0.length c0, .slice A1 l1.length c1, .bool fl], .agg #[.int .i64 1, .int .i64 b], .func (.func fid) #[] cap] w fun e_ w' => e_ = .returned (.tuple #[.agg #[.int .i64 0, .slice none 0 0, .slice none 0 0, .bool false], .int .i64 192]) ∧ Below w.heap.size w w' := by
  subst hfl
  have hl3 := lays3_of w t (.slice A0 l0.length c0) (.slice A1 l1.length c1) true 1 b
  have hba : Below w.heap.size w ((w3of w t (.slice A0 l0.length c0) (.slice A1 l1.length c1) true 1 b).alloc (.cells #[.int .i64 1, .int .i64 b] 29)) := below_alloc hl3.q0 _
  have hkn := known_any t true A0 c0 l0 A1 c1 l1 (some ⟨(w3of w t (.slice A0 l0.length c0) (.slice A1 l1.length c1) true 1 b).heap.size, 0, none⟩) 1 [⟨1, b⟩] ((w3of w t (.slice A0 l0.length c0) (.slice A1 l1.length c1) true 1 b).alloc (.cells #[.int .i64 1, .int .i64 b] 29)) (Kd.C_below h0 hba) (Kd.C_below h1 hba) (C_one (w3of w t (.slice A0 l0.length c0) (.slice A1 l1.length c1) true 1 b) 1 b) (by simp) hl0 hl1 (hT.below hba)
  rw [he] at hkn
  have H0 := Aside0.mk h0
  have H1 := Aside0.mk h1
  obtain ⟨W3, hW3⟩ : ∃ W3, (w3of w t (.slice A0 l0.length c0) (.slice A1 l1.length c1) true 1 b) = W3 := ⟨_, rfl⟩
  rw [hW3] at hl3 hba hkn
  unfold w3of at hW3
  have HW3 := Aside0.mk hW3
  have HL := Aside0.mk hl3
  have HKN := Aside0.mk hkn
  have ha := below_alloc (Below.refl W3.heap.size W3) (.cells #[.int .i64 1, .int .i64 b] 29)
  have HBA := Aside0.mk ha
  clear hba hkn h0 h1 he hl3 hT hl0 hl1 ha hW3
  have hu22 := Tryd.underlying22
  have hu29 := Tryd.underlying29
  have hu24 := Tryd.underlying24
  have hu38 := Tryd.underlying38
  have hu26 := Tryd.underlying26
  have hz0 := HL.out.q2.c0
  have hz1 := HL.out.q2.c1
  have hz2 := HL.out.q2.c2
  have hz3 := HL.out.q2.c3
  have hy0 : W3.cell? ⟨w.heap.size + 1, 0, none⟩ = some (.int .i64 1) := (blk_cell HL.out.q3 0).trans rfl
  have hy1 : W3.cell? ⟨w.heap.size + 1, 1, none⟩ = some (.int .i64 b) := (blk_cell HL.out.q3 1).trans rfl
  go_enter Tryd.func45, Tryd.ntmps45
  go_upto_region 1 with (fail)
  rw [HW3.out]
  clear HW3
  go_wp2_with (go_at_call 54; go_must (refine HKN.out.mono ?_; rintro e_ W4 ⟨rfl, hB4⟩; have HF := Aside0.mk (HL.out.below (below_step HBA.out hB4)); clear hB4 HL HKN HBA hz0 hz1 hz2 hz3 hy0 hy1; have hx3 := HF.out.1.c3; have hc0 : W4.cell? ⟨w.heap.size + 1 + 1, 0, none⟩ = some (.int .i64 0) := (blk_cell HF.out.2.2.1 0).trans rfl; have hc1 : W4.cell? ⟨w.heap.size + 1 + 1, 1, none⟩ = some (.slice none 0 0) := (blk_cell HF.out.2.2.1 1).trans rfl; have hc2 : W4.cell? ⟨w.heap.size + 1 + 1, 2, none⟩ = some (.slice none 0 0) := (blk_cell HF.out.2.2.1 2).trans rfl; have hc3 : W4.cell? ⟨w.heap.size + 1 + 1, 3, none⟩ = some (.bool false) := (blk_cell HF.out.2.2.1 3).trans rfl; have hf0 : W4.frozen? ⟨w.heap.size + 1 + 1, 0, none⟩ = false := frozen_of_row _ _ _ _ _ HF.out.2.2.1; have hf1 : W4.frozen? ⟨w.heap.size + 1 + 1, 1, none⟩ = false := frozen_of_row _ _ _ _ _ HF.out.2.2.1; have hf2 : W4.frozen? ⟨w.heap.size + 1 + 1, 2, none⟩ = false := frozen_of_row _ _ _ _ _ HF.out.2.2.1; have hf3 : W4.frozen? ⟨w.heap.size + 1 + 1, 3, none⟩ = false := frozen_of_row _ _ _ _ _ HF.out.2.2.1))
  refine bodyPost_ret (results_ct rfl _ _ (w.heap.size + 1 + 1) 24 #[.int .i64 0, .slice none 0 0, .slice none 0 0, .bool false] (0, 0) _ rfl (by refine blk_put (cs := #[.int .i64 0, .slice none 0 0, .slice none 0 0, .bool false]) ?_ 3 _ rfl; refine blk_put (cs := #[.int .i64 0, .slice none 0 0, .slice none 0 0, .bool false]) ?_ 2 _ rfl; refine blk_put (cs := #[.int .i64 0, .slice none 0 0, .slice none 0 0, .bool false]) ?_ 1 _ rfl; refine blk_put (cs := #[.int .i64 0, .slice none 0 0, .slice none 0 0, .bool false]) ?_ 0 _ rfl; exact HF.out.2.2.1) Tryd.underlying24 rfl (by kernel_rfl)) rfl ?_
  exact ⟨rfl, (((HF.out.2.2.2.1.setCell (by simp; omega) _).setCell (by simp; omega) _).setCell (by simp; omega) _).setCell (by simp; omega) _⟩

set_option maxHeartbeats 4000000 in
set_option maxRecDepth 100000 in
theorem ended_wait_map (fid : Nat) (cap : Array Value) (hE : Enters Tryd.prog fid) (t : Int) (fl : Bool) (A0 : Option Addr) (c0 : Nat) (l0 : List S38) (A1 : Option Addr) (c1 : Nat) (l1 : List S38) (b : Nat) (w : World)
    (h0 : Kd.C k38 w A0 l0.length l0) (h1 : Kd.C k38 w A1 l1.length l1) (hl0 : l0.length ≤ 6000000000000) (hl1 : l1.length ≤ 6000000000000) (hT : Tab w) (he : knownP t l0 l1 fl [⟨0, b⟩] = 0) (hfl : fl = false) (hb : b < l0.length) (hst : (rd_T38 l0 (b : Int)).f0 ≠ 1) :
    Calls Tryd.prog 45 #[.agg #[.int .i64 t, .slice A0 l0.length c0, .slice A1 l1.length c1, .bool fl], .agg #[.int .i64 0, .int .i64 b], .func (.func fid) #[] cap] w fun e_ w' => e_ = .returned (.tuple #[.agg #[.int .i64 0, .slice none 0 0, .slice none 0 0, .bool false], .int .i64 192]) ∧ Below w.heap.size w w' := by
  subst hfl
  have hl3 := lays3_of w t (.slice A0 l0.length c0) (.slice A1 l1.length c1) false 0 b
  have hba : Below w.heap.size w ((w3of w t (.slice A0 l0.length c0) (.slice A1 l1.length c1) false 0 b).alloc (.cells #[.int .i64 0, .int .i64 b] 29)) := below_alloc hl3.q0 _
  have hkn := known_any t false A0 c0 l0 A1 c1 l1 (some ⟨(w3of w t (.slice A0 l0.length c0) (.slice A1 l1.length c1) false 0 b).heap.size, 0, none⟩) 1 [⟨0, b⟩] ((w3of w t (.slice A0 l0.length c0) (.slice A1 l1.length c1) false 0 b).alloc (.cells #[.int .i64 0, .int .i64 b] 29)) (Kd.C_below h0 hba) (Kd.C_below h1 hba) (C_one (w3of w t (.slice A0 l0.length c0) (.slice A1 l1.length c1) false 0 b) 0 b) (by simp) hl0 hl1 (hT.below hba)
  rw [he] at hkn
  have H0 := Aside0.mk h0
  have H1 := Aside0.mk h1
  obtain ⟨W3, hW3⟩ : ∃ W3, (w3of w t (.slice A0 l0.length c0) (.slice A1 l1.length c1) false 0 b) = W3 := ⟨_, rfl⟩
  rw [hW3] at hl3 hba hkn
  unfold w3of at hW3
  have HW3 := Aside0.mk hW3
  have HL := Aside0.mk hl3
  have HKN := Aside0.mk hkn
  have ha := below_alloc (Below.refl W3.heap.size W3) (.cells #[.int .i64 0, .int .i64 b] 29)
  have HBA := Aside0.mk ha
  clear hba hkn h0 h1 he hl3 hT hl0 hl1 ha hW3
  have hu22 := Tryd.underlying22
  have hu29 := Tryd.underlying29
  have hu24 := Tryd.underlying24
  have hu38 := Tryd.underlying38
  have hu26 := Tryd.underlying26
  have hz0 := HL.out.q2.c0
  have hz1 := HL.out.q2.c1
  have hz2 := HL.out.q2.c2
  have hz3 := HL.out.q2.c3
  have hy0 : W3.cell? ⟨w.heap.size + 1, 0, none⟩ = some (.int .i64 0) := (blk_cell HL.out.q3 0).trans rfl
  have hy1 : W3.cell? ⟨w.heap.size + 1, 1, none⟩ = some (.int .i64 b) := (blk_cell HL.out.q3 1).trans rfl
  go_enter Tryd.func45, Tryd.ntmps45
  go_upto_region 1 with (fail)
  rw [HW3.out]
  clear HW3
  obtain ⟨ad, ea, hx0, _, _⟩ := at_T38 H0.out (b : Int) (by omega) (by omega)
  subst ea
  rw [Int.toNat_natCast] at hx0
  have HX0 := Aside0.mk hx0
  clear hx0
  generalize (rd_T38 l0 (b : Int)).f0 = st at hst HX0
  have hst1 : (st != 1) = true := bne_iff_ne.2 hst
  clear hst
  have HBI := Aside0.mk hb
  clear hb
  go_wp2_with (first | (go_at_call 54; go_must (refine HKN.out.mono ?_; rintro e_ W4 ⟨rfl, hB4⟩; have HF := Aside0.mk (HL.out.below (below_step HBA.out hB4)); clear hB4 HL HKN HBA hz0 hz1 hz2 hz3 hy0 hy1; have hx3 := HF.out.1.c3; have hv0 : W4.cell? ⟨w.heap.size + 1, 0, none⟩ = some (.int .i64 0) := (blk_cell HF.out.2.1 0).trans rfl; have hv1 : W4.cell? ⟨w.heap.size + 1, 1, none⟩ = some (.int .i64 b) := (blk_cell HF.out.2.1 1).trans rfl)) | (go_at_call 55; go_must (refine (state_map W4 w.heap.size t ad _ _ _ false b HF.out.1 (by omega) (by have := HBI.out; omega)).mono ?_; rintro e_ W5 ⟨rfl, hB5⟩; have HG := Aside0.mk (show bookAt W5 w.heap.size t _ _ false ∧ W5.heap[w.heap.size + 1]? = some (.cells #[.int .i64 0, .int .i64 b] 29 (0, 0)) ∧ W5.heap[w.heap.size + 1 + 1]? = some (.cells #[.int .i64 0, .slice none 0 0, .slice none 0 0, .bool false] 24 (0, 0)) ∧ Below w.heap.size w W5 ∧ w.heap.size + 3 ≤ W5.heap.size from ⟨HF.out.1.below hB5 HF.out.1.lt, (hB5.block _ (by have := HF.out.2.2.2.2; omega)).trans HF.out.2.1, (hB5.block _ (by have := HF.out.2.2.2.2; omega)).trans HF.out.2.2.1, below_step HF.out.2.2.2.1 hB5, by have := hB5.size; have := HF.out.2.2.2.2; omega⟩); clear hB5 HF hx3 hv0 hv1; have hx0 := (HG.out.2.2.2.1.cell (World.block_lt_of_cell? w _ HX0.out)).trans HX0.out; have hc0 : W5.cell? ⟨w.heap.size + 1 + 1, 0, none⟩ = some (.int .i64 0) := (blk_cell HG.out.2.2.1 0).trans rfl; have hc1 : W5.cell? ⟨w.heap.size + 1 + 1, 1, none⟩ = some (.slice none 0 0) := (blk_cell HG.out.2.2.1 1).trans rfl; have hc2 : W5.cell? ⟨w.heap.size + 1 + 1, 2, none⟩ = some (.slice none 0 0) := (blk_cell HG.out.2.2.1 2).trans rfl; have hc3 : W5.cell? ⟨w.heap.size + 1 + 1, 3, none⟩ = some (.bool false) := (blk_cell HG.out.2.2.1 3).trans rfl; have hf0 : W5.frozen? ⟨w.heap.size + 1 + 1, 0, none⟩ = false := frozen_of_row _ _ _ _ _ HG.out.2.2.1; have hf1 : W5.frozen? ⟨w.heap.size + 1 + 1, 1, none⟩ = false := frozen_of_row _ _ _ _ _ HG.out.2.2.1; have hf2 : W5.frozen? ⟨w.heap.size + 1 + 1, 2, none⟩ = false := frozen_of_row _ _ _ _ _ HG.out.2.2.1; have hf3 : W5.frozen? ⟨w.heap.size + 1 + 1, 3, none⟩ = false := frozen_of_row _ _ _ _ _ HG.out.2.2.1)))
  refine bodyPost_ret (results_ct rfl _ _ (w.heap.size + 1 + 1) 24 #[.int .i64 0, .slice none 0 0, .slice none 0 0, .bool false] (0, 0) _ rfl (by refine blk_put (cs := #[.int .i64 0, .slice none 0 0, .slice none 0 0, .bool false]) ?_ 3 _ rfl; refine blk_put (cs := #[.int .i64 0, .slice none 0 0, .slice none 0 0, .bool false]) ?_ 2 _ rfl; refine blk_put (cs := #[.int .i64 0, .slice none 0 0, .slice none 0 0, .bool false]) ?_ 1 _ rfl; refine blk_put (cs := #[.int .i64 0, .slice none 0 0, .slice none 0 0, .bool false]) ?_ 0 _ rfl; exact HG.out.2.2.1) Tryd.underlying24 rfl (by kernel_rfl)) rfl ?_
  exact ⟨rfl, (((HG.out.2.2.2.1.setCell (by simp; omega) _).setCell (by simp; omega) _).setCell (by simp; omega) _).setCell (by simp; omega) _⟩

set_option maxHeartbeats 4000000 in
set_option maxRecDepth 100000 in
theorem ended_wait_red (fid : Nat) (cap : Array Value) (hE : Enters Tryd.prog fid) (t : Int) (fl : Bool) (A0 : Option Addr) (c0 : Nat) (l0 : List S38) (A1 : Option Addr) (c1 : Nat) (l1 : List S38) (b : Nat) (w : World)
    (h0 : Kd.C k38 w A0 l0.length l0) (h1 : Kd.C k38 w A1 l1.length l1) (hl0 : l0.length ≤ 6000000000000) (hl1 : l1.length ≤ 6000000000000) (hT : Tab w) (he : knownP t l0 l1 fl [⟨1, b⟩] = 0) (hfl : fl = false) (hb : b < l1.length) (hst : (rd_T38 l1 (b : Int)).f0 ≠ 1) :
    Calls Tryd.prog 45 #[.agg #[.int .i64 t, .slice A0 l0.length c0, .slice A1 l1.length c1, .bool fl], .agg #[.int .i64 1, .int .i64 b], .func (.func fid) #[] cap] w fun e_ w' => e_ = .returned (.tuple #[.agg #[.int .i64 0, .slice none 0 0, .slice none 0 0, .bool false], .int .i64 192]) ∧ Below w.heap.size w w' := by
  subst hfl
  have hl3 := lays3_of w t (.slice A0 l0.length c0) (.slice A1 l1.length c1) false 1 b
  have hba : Below w.heap.size w ((w3of w t (.slice A0 l0.length c0) (.slice A1 l1.length c1) false 1 b).alloc (.cells #[.int .i64 1, .int .i64 b] 29)) := below_alloc hl3.q0 _
  have hkn := known_any t false A0 c0 l0 A1 c1 l1 (some ⟨(w3of w t (.slice A0 l0.length c0) (.slice A1 l1.length c1) false 1 b).heap.size, 0, none⟩) 1 [⟨1, b⟩] ((w3of w t (.slice A0 l0.length c0) (.slice A1 l1.length c1) false 1 b).alloc (.cells #[.int .i64 1, .int .i64 b] 29)) (Kd.C_below h0 hba) (Kd.C_below h1 hba) (C_one (w3of w t (.slice A0 l0.length c0) (.slice A1 l1.length c1) false 1 b) 1 b) (by simp) hl0 hl1 (hT.below hba)
  rw [he] at hkn
  have H0 := Aside0.mk h0
  have H1 := Aside0.mk h1
  obtain ⟨W3, hW3⟩ : ∃ W3, (w3of w t (.slice A0 l0.length c0) (.slice A1 l1.length c1) false 1 b) = W3 := ⟨_, rfl⟩
  rw [hW3] at hl3 hba hkn
  unfold w3of at hW3
  have HW3 := Aside0.mk hW3
  have HL := Aside0.mk hl3
  have HKN := Aside0.mk hkn
  have ha := below_alloc (Below.refl W3.heap.size W3) (.cells #[.int .i64 1, .int .i64 b] 29)
  have HBA := Aside0.mk ha
  clear hba hkn h0 h1 he hl3 hT hl0 hl1 ha hW3
  have hu22 := Tryd.underlying22
  have hu29 := Tryd.underlying29
  have hu24 := Tryd.underlying24
  have hu38 := Tryd.underlying38
  have hu26 := Tryd.underlying26
  have hz0 := HL.out.q2.c0
  have hz1 := HL.out.q2.c1
  have hz2 := HL.out.q2.c2
  have hz3 := HL.out.q2.c3
  have hy0 : W3.cell? ⟨w.heap.size + 1, 0, none⟩ = some (.int .i64 1) := (blk_cell HL.out.q3 0).trans rfl
  have hy1 : W3.cell? ⟨w.heap.size + 1, 1, none⟩ = some (.int .i64 b) := (blk_cell HL.out.q3 1).trans rfl
  go_enter Tryd.func45, Tryd.ntmps45
  go_upto_region 1 with (fail)
  rw [HW3.out]
  clear HW3
  obtain ⟨ad, ea, hx0, _, _⟩ := at_T38 H1.out (b : Int) (by omega) (by omega)
  subst ea
  rw [Int.toNat_natCast] at hx0
  have HX0 := Aside0.mk hx0
  clear hx0
  generalize (rd_T38 l1 (b : Int)).f0 = st at hst HX0
  have hst1 : (st != 1) = true := bne_iff_ne.2 hst
  clear hst
  have HBI := Aside0.mk hb
  clear hb
  go_wp2_with (first | (go_at_call 54; go_must (refine HKN.out.mono ?_; rintro e_ W4 ⟨rfl, hB4⟩; have HF := Aside0.mk (HL.out.below (below_step HBA.out hB4)); clear hB4 HL HKN HBA hz0 hz1 hz2 hz3 hy0 hy1; have hx3 := HF.out.1.c3; have hv0 : W4.cell? ⟨w.heap.size + 1, 0, none⟩ = some (.int .i64 1) := (blk_cell HF.out.2.1 0).trans rfl; have hv1 : W4.cell? ⟨w.heap.size + 1, 1, none⟩ = some (.int .i64 b) := (blk_cell HF.out.2.1 1).trans rfl)) | (go_at_call 55; go_must (refine (state_red W4 w.heap.size t ad _ _ _ false b HF.out.1 (by omega) (by have := HBI.out; omega)).mono ?_; rintro e_ W5 ⟨rfl, hB5⟩; have HG := Aside0.mk (show bookAt W5 w.heap.size t _ _ false ∧ W5.heap[w.heap.size + 1]? = some (.cells #[.int .i64 1, .int .i64 b] 29 (0, 0)) ∧ W5.heap[w.heap.size + 1 + 1]? = some (.cells #[.int .i64 0, .slice none 0 0, .slice none 0 0, .bool false] 24 (0, 0)) ∧ Below w.heap.size w W5 ∧ w.heap.size + 3 ≤ W5.heap.size from ⟨HF.out.1.below hB5 HF.out.1.lt, (hB5.block _ (by have := HF.out.2.2.2.2; omega)).trans HF.out.2.1, (hB5.block _ (by have := HF.out.2.2.2.2; omega)).trans HF.out.2.2.1, below_step HF.out.2.2.2.1 hB5, by have := hB5.size; have := HF.out.2.2.2.2; omega⟩); clear hB5 HF hx3 hv0 hv1; have hx0 := (HG.out.2.2.2.1.cell (World.block_lt_of_cell? w _ HX0.out)).trans HX0.out; have hc0 : W5.cell? ⟨w.heap.size + 1 + 1, 0, none⟩ = some (.int .i64 0) := (blk_cell HG.out.2.2.1 0).trans rfl; have hc1 : W5.cell? ⟨w.heap.size + 1 + 1, 1, none⟩ = some (.slice none 0 0) := (blk_cell HG.out.2.2.1 1).trans rfl; have hc2 : W5.cell? ⟨w.heap.size + 1 + 1, 2, none⟩ = some (.slice none 0 0) := (blk_cell HG.out.2.2.1 2).trans rfl; have hc3 : W5.cell? ⟨w.heap.size + 1 + 1, 3, none⟩ = some (.bool false) := (blk_cell HG.out.2.2.1 3).trans rfl; have hf0 : W5.frozen? ⟨w.heap.size + 1 + 1, 0, none⟩ = false := frozen_of_row _ _ _ _ _ HG.out.2.2.1; have hf1 : W5.frozen? ⟨w.heap.size + 1 + 1, 1, none⟩ = false := frozen_of_row _ _ _ _ _ HG.out.2.2.1; have hf2 : W5.frozen? ⟨w.heap.size + 1 + 1, 2, none⟩ = false := frozen_of_row _ _ _ _ _ HG.out.2.2.1; have hf3 : W5.frozen? ⟨w.heap.size + 1 + 1, 3, none⟩ = false := frozen_of_row _ _ _ _ _ HG.out.2.2.1)))
  refine bodyPost_ret (results_ct rfl _ _ (w.heap.size + 1 + 1) 24 #[.int .i64 0, .slice none 0 0, .slice none 0 0, .bool false] (0, 0) _ rfl (by refine blk_put (cs := #[.int .i64 0, .slice none 0 0, .slice none 0 0, .bool false]) ?_ 3 _ rfl; refine blk_put (cs := #[.int .i64 0, .slice none 0 0, .slice none 0 0, .bool false]) ?_ 2 _ rfl; refine blk_put (cs := #[.int .i64 0, .slice none 0 0, .slice none 0 0, .bool false]) ?_ 1 _ rfl; refine blk_put (cs := #[.int .i64 0, .slice none 0 0, .slice none 0 0, .bool false]) ?_ 0 _ rfl; exact HG.out.2.2.1) Tryd.underlying24 rfl (by kernel_rfl)) rfl ?_
  exact ⟨rfl, (((HG.out.2.2.2.1.setCell (by simp; omega) _).setCell (by simp; omega) _).setCell (by simp; omega) _).setCell (by simp; omega) _⟩

set_option maxHeartbeats 4000000 in
set_option maxRecDepth 100000 in
theorem ended_go_map (fid : Nat) (cap : Array Value) (hE : Enters Tryd.prog fid) (t : Int) (fl : Bool) (A0 : Option Addr) (c0 : Nat) (l0 : List S38) (A1 : Option Addr) (c1 : Nat) (l1 : List S38) (b : Nat) (w : World)
    (h0 : Kd.C k38 w A0 l0.length l0) (h1 : Kd.C k38 w A1 l1.length l1) (hl0 : l0.length ≤ 6000000000000) (hl1 : l1.length ≤ 6000000000000) (hT : Tab w) (he : knownP t l0 l1 fl [⟨0, b⟩] = 0) (hfl : fl = false) (hb : b < l0.length) (hst : (rd_T38 l0 (b : Int)).f0 = 1) (hl0' : l0.length ≤ 100000) (hl1' : l1.length ≤ 100000) (s' : S38) (fl' : Bool)
    (hdo : ∀ (W : World) (gb gs off : Nat) (u0 u1 : Value), bookAt W gb t u0 u1 fl → taskAt W gs off (rd_T38 l0 (b : Int)) → gs ≠ gb → w.heap.size ≤ gs → Below w.heap.size w W →
      Calls Tryd.prog fid (#[.pointer (some ⟨gb, 0, none⟩), .pointer (some ⟨gs, off, none⟩)] ++ cap) W fun e w' => e = .returned (.tuple #[]) ∧ ∃ q, w' = (put4 W gs off s' gb fl').drewN q) :
    Calls Tryd.prog 45 #[.agg #[.int .i64 t, .slice A0 l0.length c0, .slice A1 l1.length c1, .bool fl], .agg #[.int .i64 0, .int .i64 b], .func (.func fid) #[] cap] w fun e_ w' => ∃ v1 v2 : Value, e_ = .returned (.tuple #[.agg #[.int .i64 t, v1, v2, .bool fl'], .int .i64 0]) ∧ Kd.R k38 38 w' w.heap.size (fun k => some k ≠ v2.ownBlock) v1 (l0.set b s') ∧ Kd.R k38 38 w' w.heap.size (fun k => some k ≠ v1.ownBlock) v2 l1 ∧ Below w.heap.size w w' := by
  subst hfl
  have hl3 := lays3_of w t (.slice A0 l0.length c0) (.slice A1 l1.length c1) false 0 b
  have hba : Below w.heap.size w ((w3of w t (.slice A0 l0.length c0) (.slice A1 l1.length c1) false 0 b).alloc (.cells #[.int .i64 0, .int .i64 b] 29)) := below_alloc hl3.q0 _
  have hkn := known_any t false A0 c0 l0 A1 c1 l1 (some ⟨(w3of w t (.slice A0 l0.length c0) (.slice A1 l1.length c1) false 0 b).heap.size, 0, none⟩) 1 [⟨0, b⟩] ((w3of w t (.slice A0 l0.length c0) (.slice A1 l1.length c1) false 0 b).alloc (.cells #[.int .i64 0, .int .i64 b] 29)) (Kd.C_below h0 hba) (Kd.C_below h1 hba) (C_one (w3of w t (.slice A0 l0.length c0) (.slice A1 l1.length c1) false 0 b) 0 b) (by simp) hl0 hl1 (hT.below hba)
  rw [he] at hkn
  have H0 := Aside0.mk h0
  have H1 := Aside0.mk h1
  obtain ⟨W3, hW3⟩ : ∃ W3, (w3of w t (.slice A0 l0.length c0) (.slice A1 l1.length c1) false 0 b) = W3 := ⟨_, rfl⟩
  rw [hW3] at hl3 hba hkn
  unfold w3of at hW3
  have HW3 := Aside0.mk hW3
  have HL := Aside0.mk hl3
  have HKN := Aside0.mk hkn
  have ha := below_alloc (Below.refl W3.heap.size W3) (.cells #[.int .i64 0, .int .i64 b] 29)
  have HBA := Aside0.mk ha
  clear hba hkn h0 h1 he hl3 hT hl0 hl1 ha hW3
  have hu22 := Tryd.underlying22
  have hu29 := Tryd.underlying29
  have hu24 := Tryd.underlying24
  have hu38 := Tryd.underlying38
  have hu26 := Tryd.underlying26
  have hz0 := HL.out.q2.c0
  have hz1 := HL.out.q2.c1
  have hz2 := HL.out.q2.c2
  have hz3 := HL.out.q2.c3
  have hy0 : W3.cell? ⟨w.heap.size + 1, 0, none⟩ = some (.int .i64 0) := (blk_cell HL.out.q3 0).trans rfl
  have hy1 : W3.cell? ⟨w.heap.size + 1, 1, none⟩ = some (.int .i64 b) := (blk_cell HL.out.q3 1).trans rfl
  go_enter Tryd.func45, Tryd.ntmps45
  go_upto_region 1 with (fail)
  rw [HW3.out]
  clear HW3
  obtain ⟨ad, ea, hx0, _, _⟩ := at_T38 H0.out (b : Int) (by omega) (by omega)
  subst ea
  rw [Int.toNat_natCast] at hx0
  rw [hst] at hx0
  have HX0 := Aside0.mk hx0
  clear hx0 hst
  have HBI := Aside0.mk hb
  clear hb
  go_upto_region 6 with (first | (go_at_call 54; go_must (refine HKN.out.mono ?_; rintro e_ W4 ⟨rfl, hB4⟩; have HF := Aside0.mk (HL.out.below (below_step HBA.out hB4)); clear hB4 HL HKN HBA hz0 hz1 hz2 hz3 hy0 hy1; have hx3 := HF.out.1.c3; have hv0 : W4.cell? ⟨w.heap.size + 1, 0, none⟩ = some (.int .i64 0) := (blk_cell HF.out.2.1 0).trans rfl; have hv1 : W4.cell? ⟨w.heap.size + 1, 1, none⟩ = some (.int .i64 b) := (blk_cell HF.out.2.1 1).trans rfl)) | (go_at_call 55; go_must (refine (state_map W4 w.heap.size t ad _ _ _ false b HF.out.1 (by omega) (by have := HBI.out; omega)).mono ?_; rintro e_ W5 ⟨rfl, hB5⟩; have HG := Aside0.mk (show bookAt W5 w.heap.size t _ _ false ∧ W5.heap[w.heap.size + 1]? = some (.cells #[.int .i64 0, .int .i64 b] 29 (0, 0)) ∧ W5.heap[w.heap.size + 1 + 1]? = some (.cells #[.int .i64 0, .slice none 0 0, .slice none 0 0, .bool false] 24 (0, 0)) ∧ Below w.heap.size w W5 ∧ w.heap.size + 3 ≤ W5.heap.size from ⟨HF.out.1.below hB5 HF.out.1.lt, (hB5.block _ (by have := HF.out.2.2.2.2; omega)).trans HF.out.2.1, (hB5.block _ (by have := HF.out.2.2.2.2; omega)).trans HF.out.2.2.1, below_step HF.out.2.2.2.1 hB5, by have := hB5.size; have := HF.out.2.2.2.2; omega⟩); clear hB5 HF hx3 hv0 hv1; have hx0 := (HG.out.2.2.2.1.cell (World.block_lt_of_cell? w _ HX0.out)).trans HX0.out)))
  clear hx0
  have hz0 := HG.out.1.c0
  have hz1 := HG.out.1.c1
  have hz2 := HG.out.1.c2
  have hz3 := HG.out.1.c3
  have hy0 : W5.cell? ⟨w.heap.size + 1, 0, none⟩ = some (.int .i64 0) := (blk_cell HG.out.2.1 0).trans rfl
  have hy1 : W5.cell? ⟨w.heap.size + 1, 1, none⟩ = some (.int .i64 b) := (blk_cell HG.out.2.1 1).trans rfl
  have hch := changed_map fid cap hE t false (some ad) c0 l0 A1 c1 l1 b s' fl' W5 (Kd.C_below H0.out HG.out.2.2.2.1) (Kd.C_below H1.out HG.out.2.2.2.1) hl0' hl1' HBI.out
    (fun W gb gs off u0 u1 g1 g2 g3 g4 g5 => hdo W gb gs off u0 u1 g1 g2 g3 (Nat.le_trans (by have := HG.out.2.2.2.2; omega) g4) (below_step HG.out.2.2.2.1 g5))
  have HCH := Aside0.mk hch
  clear hch hdo
  go_wp2_with (go_at_call 56; go_must (refine HCH.out.mono ?_; rintro e_ W4 ⟨v1, v2, rfl, hr1, hr2, hB6⟩; have HR1 := Aside0.mk (Kd.R_mono (Kd.R_bound hr1) (fun k hk => (⟨hk.1, hk.2.1⟩ : _ ∧ W5.heap.size ≤ k))); have HR2 := Aside0.mk (Kd.R_mono (Kd.R_bound hr2) (fun k hk => (⟨hk.1, hk.2.1⟩ : _ ∧ W5.heap.size ≤ k))); have HB6 := Aside0.mk (below_step HG.out.2.2.2.1 hB6); have HZ := Aside0.mk (show W4.heap[w.heap.size + 1 + 1]? = some (.cells #[.int .i64 0, .slice none 0 0, .slice none 0 0, .bool false] 24 (0, 0)) from (hB6.block _ (by have := HG.out.2.2.2.2; omega)).trans HG.out.2.2.1); have HS := Aside0.mk HG.out.2.2.2.2; have HB5 := Aside0.mk (below_size HG.out.2.2.2.1); clear hr1 hr2 hB6 HCH HG hz0 hz1 hz2 hz3 hy0 hy1; obtain ⟨B1, d1, e1⟩ := Kd.R_slice HR1.out; subst e1; obtain ⟨B2, d2, e2⟩ := Kd.R_slice HR2.out; subst e2; (try simp only [List.length_set] at HR1 HR2); have hc0 : W4.cell? ⟨w.heap.size + 1 + 1, 0, none⟩ = some (.int .i64 0) := (blk_cell HZ.out 0).trans rfl; have hc1 : W4.cell? ⟨w.heap.size + 1 + 1, 1, none⟩ = some (.slice none 0 0) := (blk_cell HZ.out 1).trans rfl; have hc2 : W4.cell? ⟨w.heap.size + 1 + 1, 2, none⟩ = some (.slice none 0 0) := (blk_cell HZ.out 2).trans rfl; have hc3 : W4.cell? ⟨w.heap.size + 1 + 1, 3, none⟩ = some (.bool false) := (blk_cell HZ.out 3).trans rfl; have hf0 : W4.frozen? ⟨w.heap.size + 1 + 1, 0, none⟩ = false := frozen_of_row _ _ _ _ _ HZ.out; have hf1 : W4.frozen? ⟨w.heap.size + 1 + 1, 1, none⟩ = false := frozen_of_row _ _ _ _ _ HZ.out; have hf2 : W4.frozen? ⟨w.heap.size + 1 + 1, 2, none⟩ = false := frozen_of_row _ _ _ _ _ HZ.out; have hf3 : W4.frozen? ⟨w.heap.size + 1 + 1, 3, none⟩ = false := frozen_of_row _ _ _ _ _ HZ.out))
  refine bodyPost_ret (results_ct rfl _ _ (w.heap.size + 1 + 1) 24 #[.int .i64 t, .slice B1 l0.length d1, .slice B2 l1.length d2, .bool fl'] (0, 0) _ rfl (by refine blk_put (cs := #[.int .i64 t, .slice B1 l0.length d1, .slice B2 l1.length d2, .bool false]) ?_ 3 _ rfl; refine blk_put (cs := #[.int .i64 t, .slice B1 l0.length d1, .slice none 0 0, .bool false]) ?_ 2 _ rfl; refine blk_put (cs := #[.int .i64 t, .slice none 0 0, .slice none 0 0, .bool false]) ?_ 1 _ rfl; refine blk_put (cs := #[.int .i64 0, .slice none 0 0, .slice none 0 0, .bool false]) ?_ 0 _ rfl; exact HZ.out) Tryd.underlying24 rfl (by kernel_rfl)) rfl ?_
  have hs := HS.out
  refine ⟨_, _, rfl, ?_, ?_, (((HB6.out.setCell (by simp; omega) _).setCell (by simp; omega) _).setCell (by simp; omega) _).setCell (by simp; omega) _⟩
  · exact Kd.R_lower (Kd.R_mono (Kd.R_far (p := ⟨w.heap.size + 1 + 1, 3, none⟩) (Kd.R_far (p := ⟨w.heap.size + 1 + 1, 2, none⟩) (Kd.R_far (p := ⟨w.heap.size + 1 + 1, 1, none⟩) (Kd.R_far (p := ⟨w.heap.size + 1 + 1, 0, none⟩) HR1.out (fun k hk => by have := hk.2; simp; omega) _) (fun k hk => by have := hk.2; simp; omega) _) (fun k hk => by have := hk.2; simp; omega) _) (fun k hk => by have := hk.2; simp; omega) _) (fun k hk => hk.1)) HB5.out
  · exact Kd.R_lower (Kd.R_mono (Kd.R_far (p := ⟨w.heap.size + 1 + 1, 3, none⟩) (Kd.R_far (p := ⟨w.heap.size + 1 + 1, 2, none⟩) (Kd.R_far (p := ⟨w.heap.size + 1 + 1, 1, none⟩) (Kd.R_far (p := ⟨w.heap.size + 1 + 1, 0, none⟩) HR2.out (fun k hk => by have := hk.2; simp; omega) _) (fun k hk => by have := hk.2; simp; omega) _) (fun k hk => by have := hk.2; simp; omega) _) (fun k hk => by have := hk.2; simp; omega) _) (fun k hk => hk.1)) HB5.out

set_option maxHeartbeats 4000000 in
set_option maxRecDepth 100000 in
theorem ended_go_red (fid : Nat) (cap : Array Value) (hE : Enters Tryd.prog fid) (t : Int) (fl : Bool) (A0 : Option Addr) (c0 : Nat) (l0 : List S38) (A1 : Option Addr) (c1 : Nat) (l1 : List S38) (b : Nat) (w : World)
    (h0 : Kd.C k38 w A0 l0.length l0) (h1 : Kd.C k38 w A1 l1.length l1) (hl0 : l0.length ≤ 6000000000000) (hl1 : l1.length ≤ 6000000000000) (hT : Tab w) (he : knownP t l0 l1 fl [⟨1, b⟩] = 0) (hfl : fl = false) (hb : b < l1.length) (hst : (rd_T38 l1 (b : Int)).f0 = 1) (hl0' : l0.length ≤ 100000) (hl1' : l1.length ≤ 100000) (s' : S38) (fl' : Bool)
    (hdo : ∀ (W : World) (gb gs off : Nat) (u0 u1 : Value), bookAt W gb t u0 u1 fl → taskAt W gs off (rd_T38 l1 (b : Int)) → gs ≠ gb → w.heap.size ≤ gs → Below w.heap.size w W →
      Calls Tryd.prog fid (#[.pointer (some ⟨gb, 0, none⟩), .pointer (some ⟨gs, off, none⟩)] ++ cap) W fun e w' => e = .returned (.tuple #[]) ∧ ∃ q, w' = (put4 W gs off s' gb fl').drewN q) :
    Calls Tryd.prog 45 #[.agg #[.int .i64 t, .slice A0 l0.length c0, .slice A1 l1.length c1, .bool fl], .agg #[.int .i64 1, .int .i64 b], .func (.func fid) #[] cap] w fun e_ w' => ∃ v1 v2 : Value, e_ = .returned (.tuple #[.agg #[.int .i64 t, v1, v2, .bool fl'], .int .i64 0]) ∧ Kd.R k38 38 w' w.heap.size (fun k => some k ≠ v2.ownBlock) v1 l0 ∧ Kd.R k38 38 w' w.heap.size (fun k => some k ≠ v1.ownBlock) v2 (l1.set b s') ∧ Below w.heap.size w w' := by
  subst hfl
  have hl3 := lays3_of w t (.slice A0 l0.length c0) (.slice A1 l1.length c1) false 1 b
  have hba : Below w.heap.size w ((w3of w t (.slice A0 l0.length c0) (.slice A1 l1.length c1) false 1 b).alloc (.cells #[.int .i64 1, .int .i64 b] 29)) := below_alloc hl3.q0 _
  have hkn := known_any t false A0 c0 l0 A1 c1 l1 (some ⟨(w3of w t (.slice A0 l0.length c0) (.slice A1 l1.length c1) false 1 b).heap.size, 0, none⟩) 1 [⟨1, b⟩] ((w3of w t (.slice A0 l0.length c0) (.slice A1 l1.length c1) false 1 b).alloc (.cells #[.int .i64 1, .int .i64 b] 29)) (Kd.C_below h0 hba) (Kd.C_below h1 hba) (C_one (w3of w t (.slice A0 l0.length c0) (.slice A1 l1.length c1) false 1 b) 1 b) (by simp) hl0 hl1 (hT.below hba)
  rw [he] at hkn
  have H0 := Aside0.mk h0
  have H1 := Aside0.mk h1
  obtain ⟨W3, hW3⟩ : ∃ W3, (w3of w t (.slice A0 l0.length c0) (.slice A1 l1.length c1) false 1 b) = W3 := ⟨_, rfl⟩
  rw [hW3] at hl3 hba hkn
  unfold w3of at hW3
  have HW3 := Aside0.mk hW3
  have HL := Aside0.mk hl3
  have HKN := Aside0.mk hkn
  have ha := below_alloc (Below.refl W3.heap.size W3) (.cells #[.int .i64 1, .int .i64 b] 29)
  have HBA := Aside0.mk ha
  clear hba hkn h0 h1 he hl3 hT hl0 hl1 ha hW3
  have hu22 := Tryd.underlying22
  have hu29 := Tryd.underlying29
  have hu24 := Tryd.underlying24
  have hu38 := Tryd.underlying38
  have hu26 := Tryd.underlying26
  have hz0 := HL.out.q2.c0
  have hz1 := HL.out.q2.c1
  have hz2 := HL.out.q2.c2
  have hz3 := HL.out.q2.c3
  have hy0 : W3.cell? ⟨w.heap.size + 1, 0, none⟩ = some (.int .i64 1) := (blk_cell HL.out.q3 0).trans rfl
  have hy1 : W3.cell? ⟨w.heap.size + 1, 1, none⟩ = some (.int .i64 b) := (blk_cell HL.out.q3 1).trans rfl
  go_enter Tryd.func45, Tryd.ntmps45
  go_upto_region 1 with (fail)
  rw [HW3.out]
  clear HW3
  obtain ⟨ad, ea, hx0, _, _⟩ := at_T38 H1.out (b : Int) (by omega) (by omega)
  subst ea
  rw [Int.toNat_natCast] at hx0
  rw [hst] at hx0
  have HX0 := Aside0.mk hx0
  clear hx0 hst
  have HBI := Aside0.mk hb
  clear hb
  go_upto_region 6 with (first | (go_at_call 54; go_must (refine HKN.out.mono ?_; rintro e_ W4 ⟨rfl, hB4⟩; have HF := Aside0.mk (HL.out.below (below_step HBA.out hB4)); clear hB4 HL HKN HBA hz0 hz1 hz2 hz3 hy0 hy1; have hx3 := HF.out.1.c3; have hv0 : W4.cell? ⟨w.heap.size + 1, 0, none⟩ = some (.int .i64 1) := (blk_cell HF.out.2.1 0).trans rfl; have hv1 : W4.cell? ⟨w.heap.size + 1, 1, none⟩ = some (.int .i64 b) := (blk_cell HF.out.2.1 1).trans rfl)) | (go_at_call 55; go_must (refine (state_red W4 w.heap.size t ad _ _ _ false b HF.out.1 (by omega) (by have := HBI.out; omega)).mono ?_; rintro e_ W5 ⟨rfl, hB5⟩; have HG := Aside0.mk (show bookAt W5 w.heap.size t _ _ false ∧ W5.heap[w.heap.size + 1]? = some (.cells #[.int .i64 1, .int .i64 b] 29 (0, 0)) ∧ W5.heap[w.heap.size + 1 + 1]? = some (.cells #[.int .i64 0, .slice none 0 0, .slice none 0 0, .bool false] 24 (0, 0)) ∧ Below w.heap.size w W5 ∧ w.heap.size + 3 ≤ W5.heap.size from ⟨HF.out.1.below hB5 HF.out.1.lt, (hB5.block _ (by have := HF.out.2.2.2.2; omega)).trans HF.out.2.1, (hB5.block _ (by have := HF.out.2.2.2.2; omega)).trans HF.out.2.2.1, below_step HF.out.2.2.2.1 hB5, by have := hB5.size; have := HF.out.2.2.2.2; omega⟩); clear hB5 HF hx3 hv0 hv1; have hx0 := (HG.out.2.2.2.1.cell (World.block_lt_of_cell? w _ HX0.out)).trans HX0.out)))
  clear hx0
  have hz0 := HG.out.1.c0
  have hz1 := HG.out.1.c1
  have hz2 := HG.out.1.c2
  have hz3 := HG.out.1.c3
  have hy0 : W5.cell? ⟨w.heap.size + 1, 0, none⟩ = some (.int .i64 1) := (blk_cell HG.out.2.1 0).trans rfl
  have hy1 : W5.cell? ⟨w.heap.size + 1, 1, none⟩ = some (.int .i64 b) := (blk_cell HG.out.2.1 1).trans rfl
  have hch := changed_red fid cap hE t false A0 c0 l0 (some ad) c1 l1 b s' fl' W5 (Kd.C_below H0.out HG.out.2.2.2.1) (Kd.C_below H1.out HG.out.2.2.2.1) hl0' hl1' HBI.out
    (fun W gb gs off u0 u1 g1 g2 g3 g4 g5 => hdo W gb gs off u0 u1 g1 g2 g3 (Nat.le_trans (by have := HG.out.2.2.2.2; omega) g4) (below_step HG.out.2.2.2.1 g5))
  have HCH := Aside0.mk hch
  clear hch hdo
  go_wp2_with (go_at_call 56; go_must (refine HCH.out.mono ?_; rintro e_ W4 ⟨v1, v2, rfl, hr1, hr2, hB6⟩; have HR1 := Aside0.mk (Kd.R_mono (Kd.R_bound hr1) (fun k hk => (⟨hk.1, hk.2.1⟩ : _ ∧ W5.heap.size ≤ k))); have HR2 := Aside0.mk (Kd.R_mono (Kd.R_bound hr2) (fun k hk => (⟨hk.1, hk.2.1⟩ : _ ∧ W5.heap.size ≤ k))); have HB6 := Aside0.mk (below_step HG.out.2.2.2.1 hB6); have HZ := Aside0.mk (show W4.heap[w.heap.size + 1 + 1]? = some (.cells #[.int .i64 0, .slice none 0 0, .slice none 0 0, .bool false] 24 (0, 0)) from (hB6.block _ (by have := HG.out.2.2.2.2; omega)).trans HG.out.2.2.1); have HS := Aside0.mk HG.out.2.2.2.2; have HB5 := Aside0.mk (below_size HG.out.2.2.2.1); clear hr1 hr2 hB6 HCH HG hz0 hz1 hz2 hz3 hy0 hy1; obtain ⟨B1, d1, e1⟩ := Kd.R_slice HR1.out; subst e1; obtain ⟨B2, d2, e2⟩ := Kd.R_slice HR2.out; subst e2; (try simp only [List.length_set] at HR1 HR2); have hc0 : W4.cell? ⟨w.heap.size + 1 + 1, 0, none⟩ = some (.int .i64 0) := (blk_cell HZ.out 0).trans rfl; have hc1 : W4.cell? ⟨w.heap.size + 1 + 1, 1, none⟩ = some (.slice none 0 0) := (blk_cell HZ.out 1).trans rfl; have hc2 : W4.cell? ⟨w.heap.size + 1 + 1, 2, none⟩ = some (.slice none 0 0) := (blk_cell HZ.out 2).trans rfl; have hc3 : W4.cell? ⟨w.heap.size + 1 + 1, 3, none⟩ = some (.bool false) := (blk_cell HZ.out 3).trans rfl; have hf0 : W4.frozen? ⟨w.heap.size + 1 + 1, 0, none⟩ = false := frozen_of_row _ _ _ _ _ HZ.out; have hf1 : W4.frozen? ⟨w.heap.size + 1 + 1, 1, none⟩ = false := frozen_of_row _ _ _ _ _ HZ.out; have hf2 : W4.frozen? ⟨w.heap.size + 1 + 1, 2, none⟩ = false := frozen_of_row _ _ _ _ _ HZ.out; have hf3 : W4.frozen? ⟨w.heap.size + 1 + 1, 3, none⟩ = false := frozen_of_row _ _ _ _ _ HZ.out))
  refine bodyPost_ret (results_ct rfl _ _ (w.heap.size + 1 + 1) 24 #[.int .i64 t, .slice B1 l0.length d1, .slice B2 l1.length d2, .bool fl'] (0, 0) _ rfl (by refine blk_put (cs := #[.int .i64 t, .slice B1 l0.length d1, .slice B2 l1.length d2, .bool false]) ?_ 3 _ rfl; refine blk_put (cs := #[.int .i64 t, .slice B1 l0.length d1, .slice none 0 0, .bool false]) ?_ 2 _ rfl; refine blk_put (cs := #[.int .i64 t, .slice none 0 0, .slice none 0 0, .bool false]) ?_ 1 _ rfl; refine blk_put (cs := #[.int .i64 0, .slice none 0 0, .slice none 0 0, .bool false]) ?_ 0 _ rfl; exact HZ.out) Tryd.underlying24 rfl (by kernel_rfl)) rfl ?_
  have hs := HS.out
  refine ⟨_, _, rfl, ?_, ?_, (((HB6.out.setCell (by simp; omega) _).setCell (by simp; omega) _).setCell (by simp; omega) _).setCell (by simp; omega) _⟩
  · exact Kd.R_lower (Kd.R_mono (Kd.R_far (p := ⟨w.heap.size + 1 + 1, 3, none⟩) (Kd.R_far (p := ⟨w.heap.size + 1 + 1, 2, none⟩) (Kd.R_far (p := ⟨w.heap.size + 1 + 1, 1, none⟩) (Kd.R_far (p := ⟨w.heap.size + 1 + 1, 0, none⟩) HR1.out (fun k hk => by have := hk.2; simp; omega) _) (fun k hk => by have := hk.2; simp; omega) _) (fun k hk => by have := hk.2; simp; omega) _) (fun k hk => by have := hk.2; simp; omega) _) (fun k hk => hk.1)) HB5.out
  · exact Kd.R_lower (Kd.R_mono (Kd.R_far (p := ⟨w.heap.size + 1 + 1, 3, none⟩) (Kd.R_far (p := ⟨w.heap.size + 1 + 1, 2, none⟩) (Kd.R_far (p := ⟨w.heap.size + 1 + 1, 1, none⟩) (Kd.R_far (p := ⟨w.heap.size + 1 + 1, 0, none⟩) HR2.out (fun k hk => by have := hk.2; simp; omega) _) (fun k hk => by have := hk.2; simp; omega) _) (fun k hk => by have := hk.2; simp; omega) _) (fun k hk => by have := hk.2; simp; omega) _) (fun k hk => hk.1)) HB5.out
end Go.Proofs.YtponmfnegdlppaaDoor.P

end
section
/- ledger.ended in the print's form; ledger.Done, ledger.Died (printed by HDone.gen.py). -/
namespace Go.Proofs.YtponmfnegdlppaaDoor.P
open Go.RowKit Go.Proofs.YtponmfnegdlppaaDoorW.PrintWords Go.Proofs.YtponmfnegdlppaaDoorW.PrintLast Go.Proofs.YtponmfnegdlppaaDoorW.PrintMore
set_option linter.unusedVariables false
set_option linter.unusedSimpArgs false

theorem scan_good (t : Int) (held : Bool) : ∀ (l : List S38) (f g : Int), scanP t held l f = some g → ∀ s ∈ l, goodP t held s = true
  | [], f, g, h, s, hs => by cases hs
  | x :: l, f, g, h, s, hs => by
    rw [scanP] at h
    by_cases hg : goodP t held x = true
    · rw [if_pos hg] at h
      rcases List.mem_cons.1 hs with rfl | hs
      · exact hg
      · exact scan_good t held l _ g h s hs
    · rw [if_neg hg] at h
      cases h
/-- what a right book is -/
theorem check_ok {t : Int} {l0 l1 : List S38} {fl : Bool} (h : checkP t l0 l1 fl = 0) : 1 ≤ t ∧ t ≤ 16 ∧ l0.length ≤ 256 ∧ 1 ≤ l1.length ∧ l1.length ≤ 65535 ∧
    (∀ s ∈ l0, goodP t false s = true) ∧ (∀ s ∈ l1, goodP t true s = true) ∧ ∃ f g, scanP t false l0 0 = some f ∧ scanP t true l1 f = some g ∧ ¬ 1 < g ∧ fl = decide (g = 1) := by
  unfold checkP at h
  by_cases k1 : t < 1
  · rw [if_pos k1] at h; cases h
  rw [if_neg k1] at h
  by_cases k2 : 16 < t
  · rw [if_pos k2] at h; cases h
  rw [if_neg k2] at h
  by_cases k3 : 256 < l0.length
  · rw [if_pos k3] at h; cases h
  rw [if_neg k3] at h
  by_cases k4 : l1.length < 1
  · rw [if_pos k4] at h; cases h
  rw [if_neg k4] at h
  by_cases k5 : 65535 < l1.length
  · rw [if_pos k5] at h; cases h
  rw [if_neg k5] at h
  unfold scan0 at h
  cases h0 : scanP t false l0 0 with
  | none => rw [h0] at h; cases h
  | some f =>
    rw [h0] at h
    simp only [scan1] at h
    cases h1 : scanP t true l1 f with
    | none => rw [h1] at h; cases h
    | some g =>
      rw [h1] at h
      simp only [finP] at h
      by_cases h2 : 1 < g ∨ fl ≠ decide (g = 1)
      · rw [if_pos h2] at h; cases h
      · refine ⟨by omega, by omega, by omega, by omega, by omega, scan_good t false l0 _ _ h0, scan_good t true l1 _ _ h1, f, g, rfl, h1, fun h => h2 (.inl h), ?_⟩
        by_cases h3 : fl = decide (g = 1)
        · exact h3
        · exact absurd (.inr h3) h2
theorem known_zero {t : Int} {l0 l1 : List S38} {fl : Bool} {ts : List S29} (h : knownP t l0 l1 fl ts = 0) : checkP t l0 l1 fl = 0 ∧ scanT l0.length l1.length ts = 0 := by
  unfold knownP at h
  by_cases hc : checkP t l0 l1 fl = 0
  · rw [if_pos hc] at h; exact ⟨hc, h⟩
  · rw [if_neg hc] at h; exact absurd h hc
theorem okT_form {n0 n1 : Nat} {k b : Int} (h : okT n0 n1 ⟨k, b⟩ = true) : (k = 0 ∧ ∃ n : Nat, b = n ∧ n < n0) ∨ (k = 1 ∧ ∃ n : Nat, b = n ∧ n < n1) := by
  unfold okT roomT at h
  simp only [Bool.and_eq_true, Bool.not_eq_true', decide_eq_false_iff_not] at h
  obtain ⟨h1, h2⟩ := h
  by_cases g0 : k = 0
  · rw [if_pos g0] at h2
    exact .inl ⟨g0, b.toNat, by omega, by omega⟩
  rw [if_neg g0] at h2
  by_cases g1 : k = 1
  · rw [if_pos g1] at h2
    exact .inr ⟨g1, b.toNat, by omega, by omega⟩
  rw [if_neg g1] at h2
  omega
theorem known_one {t : Int} {l0 l1 : List S38} {fl : Bool} {k b : Int} (h : knownP t l0 l1 fl [⟨k, b⟩] = 0) : checkP t l0 l1 fl = 0 ∧ ((k = 0 ∧ ∃ n : Nat, b = n ∧ n < l0.length) ∨ (k = 1 ∧ ∃ n : Nat, b = n ∧ n < l1.length)) := by
  obtain ⟨h1, h2⟩ := known_zero h
  refine ⟨h1, ?_⟩
  simp only [scanT] at h2
  by_cases hk : okT l0.length l1.length ⟨k, b⟩ = true
  · exact okT_form hk
  · rw [if_neg hk] at h2; cases h2
theorem rd_mem {l : List S38} {n : Nat} (h : n < l.length) : rd_T38 l (n : Int) ∈ l := by
  rw [rd38 l n h]
  exact List.getElem_mem h
theorem good_charge {t : Int} {held : Bool} {s : S38} (ht : t ≤ 16) (h : goodP t held s = true) : 0 ≤ s.f2 ∧ s.f2 ≤ 1000 := by
  unfold goodP at h
  simp only [Bool.and_eq_true, Bool.not_eq_true', decide_eq_false_iff_not] at h
  obtain ⟨_, _, _, h4, h5, _⟩ := h
  omega
/-- a task's state -/
def stP (l0 l1 : List S38) (k b : Int) : S38 := if k = 0 then rd_T38 l0 b else rd_T38 l1 b
/-- a running attempt's end -/
def endP (t : Int) (l0 l1 : List S38) (fl : Bool) (k b : Int) (upd : S38 → S38) (uf : S38 → Bool) : Int × List S38 × List S38 × Bool × Int :=
  if knownP t l0 l1 fl [⟨k, b⟩] = 0 then
    if fl = true ∨ (stP l0 l1 k b).f0 ≠ 1 then (0, [], [], false, 192)
    else if k = 0 then (t, l0.set b.toNat (upd (stP l0 l1 k b)), l1, uf (stP l0 l1 k b), 0) else (t, l0, l1.set b.toNat (upd (stP l0 l1 k b)), uf (stP l0 l1 k b), 0)
  else (0, [], [], false, knownP t l0 l1 fl [⟨k, b⟩])

theorem ended_any (fid : Nat) (cap : Array Value) (hE : Enters Tryd.prog fid) (upd : S38 → S38) (uf : S38 → Bool) (t : Int) (fl : Bool) (A0 : Option Addr) (c0 : Nat) (l0 : List S38) (A1 : Option Addr) (c1 : Nat) (l1 : List S38) (k b : Int) (r1 : Int) (r2 r3 : List S38) (r4 : Bool) (r5 : Int) (w : World)
    (h0 : Kd.C k38 w A0 l0.length l0) (h1 : Kd.C k38 w A1 l1.length l1) (hl0 : l0.length ≤ 6000000000000) (hl1 : l1.length ≤ 6000000000000) (hT : Tab w)
    (hdo : ∀ (W : World) (gb gs off : Nat) (u0 u1 : Value) (s : S38), 0 ≤ s.f2 → s.f2 ≤ 1000 → bookAt W gb t u0 u1 false → taskAt W gs off s → gs ≠ gb → w.heap.size ≤ gs → Below w.heap.size w W →
      Calls Tryd.prog fid (#[.pointer (some ⟨gb, 0, none⟩), .pointer (some ⟨gs, off, none⟩)] ++ cap) W fun e w' => e = .returned (.tuple #[]) ∧ ∃ q, w' = (put4 W gs off (upd s) gb (uf s)).drewN q)
    (h : endP t l0 l1 fl k b upd uf = (r1, r2, r3, r4, r5)) :
    Calls Tryd.prog 45 #[.agg #[.int .i64 t, .slice A0 l0.length c0, .slice A1 l1.length c1, .bool fl], .agg #[.int .i64 k, .int .i64 b], .func (.func fid) #[] cap] w fun e_ w' =>
      ∃ v1 v2 : Value, e_ = .returned (.tuple #[.agg #[.int .i64 r1, v1, v2, .bool r4], .int .i64 r5]) ∧ Kd.R k38 38 w' w.heap.size (fun k => some k ≠ v2.ownBlock) v1 r2 ∧ Kd.R k38 38 w' w.heap.size (fun k => some k ≠ v1.ownBlock) v2 r3 ∧ Below w.heap.size w w' := by
  unfold endP at h
  by_cases hk : knownP t l0 l1 fl [⟨k, b⟩] = 0
  · rw [if_pos hk] at h
    obtain ⟨hc, hf⟩ := known_one hk
    obtain ⟨q1, q2, q3, q4, q5, q6, q7, _⟩ := check_ok hc
    rcases hf with ⟨rfl, n, rfl, hn⟩ | ⟨rfl, n, rfl, hn⟩
    · have hst : stP l0 l1 0 (n : Int) = rd_T38 l0 (n : Int) := by unfold stP; rw [if_pos rfl]
      rw [hst] at h
      by_cases hfl : fl = true
      · rw [if_pos (.inl hfl)] at h
        simp only [Prod.mk.injEq] at h
        obtain ⟨rfl, rfl, rfl, rfl, rfl⟩ := h
        refine (ended_failed_map fid cap hE t fl A0 c0 l0 A1 c1 l1 n w h0 h1 hl0 hl1 hT hk hfl).mono ?_
        rintro e w' ⟨rfl, hB⟩
        exact ⟨_, _, rfl, Kd.R_nil _ _ _ _ _, Kd.R_nil _ _ _ _ _, hB⟩
      · have hfl' : fl = false := by cases fl <;> simp_all
        by_cases hs : (rd_T38 l0 (n : Int)).f0 ≠ 1
        · rw [if_pos (.inr hs)] at h
          simp only [Prod.mk.injEq] at h
          obtain ⟨rfl, rfl, rfl, rfl, rfl⟩ := h
          refine (ended_wait_map fid cap hE t fl A0 c0 l0 A1 c1 l1 n w h0 h1 hl0 hl1 hT hk hfl' hn hs).mono ?_
          rintro e w' ⟨rfl, hB⟩
          exact ⟨_, _, rfl, Kd.R_nil _ _ _ _ _, Kd.R_nil _ _ _ _ _, hB⟩
        · rw [if_neg (by rintro (h | h); exact hfl h; exact hs h), if_pos rfl, Int.toNat_natCast] at h
          simp only [Prod.mk.injEq] at h
          obtain ⟨rfl, rfl, rfl, rfl, rfl⟩ := h
          have hgc := good_charge q2 (q6 _ (rd_mem hn))
          exact ended_go_map fid cap hE t fl A0 c0 l0 A1 c1 l1 n w h0 h1 hl0 hl1 hT hk hfl' hn (Classical.not_not.1 hs) (by omega) (by omega) _ _ (fun W gb gs off u0 u1 g1 g2 g3 g4 g5 => hdo W gb gs off u0 u1 _ hgc.1 hgc.2 (hfl' ▸ g1) g2 g3 g4 g5)
    · have hst : stP l0 l1 1 (n : Int) = rd_T38 l1 (n : Int) := by unfold stP; rw [if_neg (by decide)]
      rw [hst] at h
      by_cases hfl : fl = true
      · rw [if_pos (.inl hfl)] at h
        simp only [Prod.mk.injEq] at h
        obtain ⟨rfl, rfl, rfl, rfl, rfl⟩ := h
        refine (ended_failed_red fid cap hE t fl A0 c0 l0 A1 c1 l1 n w h0 h1 hl0 hl1 hT hk hfl).mono ?_
        rintro e w' ⟨rfl, hB⟩
        exact ⟨_, _, rfl, Kd.R_nil _ _ _ _ _, Kd.R_nil _ _ _ _ _, hB⟩
      · have hfl' : fl = false := by cases fl <;> simp_all
        by_cases hs : (rd_T38 l1 (n : Int)).f0 ≠ 1
        · rw [if_pos (.inr hs)] at h
          simp only [Prod.mk.injEq] at h
          obtain ⟨rfl, rfl, rfl, rfl, rfl⟩ := h
          refine (ended_wait_red fid cap hE t fl A0 c0 l0 A1 c1 l1 n w h0 h1 hl0 hl1 hT hk hfl' hn hs).mono ?_
          rintro e w' ⟨rfl, hB⟩
          exact ⟨_, _, rfl, Kd.R_nil _ _ _ _ _, Kd.R_nil _ _ _ _ _, hB⟩
        · rw [if_neg (by rintro (h | h); exact hfl h; exact hs h), if_neg (by decide), Int.toNat_natCast] at h
          simp only [Prod.mk.injEq] at h
          obtain ⟨rfl, rfl, rfl, rfl, rfl⟩ := h
          have hgc := good_charge q2 (q7 _ (rd_mem hn))
          exact ended_go_red fid cap hE t fl A0 c0 l0 A1 c1 l1 n w h0 h1 hl0 hl1 hT hk hfl' hn (Classical.not_not.1 hs) (by omega) (by omega) _ _ (fun W gb gs off u0 u1 g1 g2 g3 g4 g5 => hdo W gb gs off u0 u1 _ hgc.1 hgc.2 (hfl' ▸ g1) g2 g3 g4 g5)
  · rw [if_neg hk] at h
    simp only [Prod.mk.injEq] at h
    obtain ⟨rfl, rfl, rfl, rfl, rfl⟩ := h
    refine (ended_bad fid cap hE t fl A0 c0 l0 A1 c1 l1 k b w h0 h1 hl0 hl1 hT _ rfl hk).mono ?_
    rintro e w' ⟨rfl, hB⟩
    exact ⟨_, _, rfl, Kd.R_nil _ _ _ _ _, Kd.R_nil _ _ _ _ _, hB⟩

def doneP (t : Int) (l0 l1 : List S38) (fl : Bool) (k b : Int) : Int × List S38 × List S38 × Bool × Int := endP t l0 l1 fl k b (fun s => ⟨3, s.f1, s.f2⟩) (fun s => false)
set_option maxHeartbeats 4000000 in
set_option maxRecDepth 100000 in
theorem done_any (t : Int) (fl : Bool) (A0 : Option Addr) (c0 : Nat) (l0 : List S38) (A1 : Option Addr) (c1 : Nat) (l1 : List S38) (k b : Int) (r1 : Int) (r2 r3 : List S38) (r4 : Bool) (r5 : Int) (w : World)
    (h0 : Kd.C k38 w A0 l0.length l0) (h1 : Kd.C k38 w A1 l1.length l1) (hl0 : l0.length ≤ 6000000000000) (hl1 : l1.length ≤ 6000000000000) (hT : Tab w) (h : doneP t l0 l1 fl k b = (r1, r2, r3, r4, r5)) :
    Calls Tryd.prog 22 #[.agg #[.int .i64 t, .slice A0 l0.length c0, .slice A1 l1.length c1, .bool fl], .agg #[.int .i64 k, .int .i64 b]] w fun e_ w' =>
      ∃ v1 v2 : Value, e_ = .returned (.tuple #[.agg #[.int .i64 r1, v1, v2, .bool r4], .int .i64 r5]) ∧ Kd.R k38 38 w' w.heap.size (fun k => some k ≠ v2.ownBlock) v1 r2 ∧ Kd.R k38 38 w' w.heap.size (fun k => some k ≠ v1.ownBlock) v2 r3 ∧ Below w.heap.size w w' := by
  have hl3 := lays3_of w t (.slice A0 l0.length c0) (.slice A1 l1.length c1) fl k b
  obtain ⟨W3, hW3⟩ : ∃ W3, w3of w t (.slice A0 l0.length c0) (.slice A1 l1.length c1) fl k b = W3 := ⟨_, rfl⟩
  rw [hW3] at hl3
  unfold w3of at hW3
  have hen := ended_any 46 #[] (enters_of Tryd.func46 (by kernel_rfl) rfl) (fun s => ⟨3, s.f1, s.f2⟩) (fun s => false) t fl A0 c0 l0 A1 c1 l1 k b r1 r2 r3 r4 r5 W3 (Kd.C_below h0 hl3.q0) (Kd.C_below h1 hl3.q0) hl0 hl1 (hT.below hl3.q0)
    (fun W gb gs off u0 u1 s g1 g2 g3 g4 g5 g6 g7 => do_done W gb gs off t u0 u1 false s g3 g4 g5) h
  have HW3 := Aside0.mk hW3
  have HL := Aside0.mk hl3
  have HEN := Aside0.mk hen
  clear hW3 hl3 hen h0 h1 hl0 hl1 hT h
  have hu22 := Tryd.underlying22
  have hu29 := Tryd.underlying29
  have hu24 := Tryd.underlying24
  have hz0 := HL.out.q2.c0
  have hz1 := HL.out.q2.c1
  have hz2 := HL.out.q2.c2
  have hz3 := HL.out.q2.c3
  have hy0 : W3.cell? ⟨w.heap.size + 1, 0, none⟩ = some (.int .i64 k) := (blk_cell HL.out.q3 0).trans rfl
  have hy1 : W3.cell? ⟨w.heap.size + 1, 1, none⟩ = some (.int .i64 b) := (blk_cell HL.out.q3 1).trans rfl
  go_enter Tryd.func22, Tryd.ntmps22
  go_upto_region 1 with (fail)
  rw [HW3.out]
  clear HW3
  go_wp2_with (go_at_call 45; go_must (refine HEN.out.mono ?_; rintro e_ W4 ⟨v1, v2, rfl, hr1, hr2, hB6⟩; have HR1 := Aside0.mk (Kd.R_mono (Kd.R_bound hr1) (fun k hk => (⟨hk.1, hk.2.1⟩ : _ ∧ W3.heap.size ≤ k))); have HR2 := Aside0.mk (Kd.R_mono (Kd.R_bound hr2) (fun k hk => (⟨hk.1, hk.2.1⟩ : _ ∧ W3.heap.size ≤ k))); have HB6 := Aside0.mk (below_step HL.out.q0 hB6); have HZ := Aside0.mk (HL.out.below hB6).2.2.1; have HS := Aside0.mk HL.out.q1; have HB5 := Aside0.mk (below_size HL.out.q0); clear hr1 hr2 hB6 HEN HL hz0 hz1 hz2 hz3 hy0 hy1; obtain ⟨B1, d1, e1⟩ := Kd.R_slice HR1.out; subst e1; obtain ⟨B2, d2, e2⟩ := Kd.R_slice HR2.out; subst e2; have hc0 : W4.cell? ⟨w.heap.size + 1 + 1, 0, none⟩ = some (.int .i64 0) := (blk_cell HZ.out 0).trans rfl; have hc1 : W4.cell? ⟨w.heap.size + 1 + 1, 1, none⟩ = some (.slice none 0 0) := (blk_cell HZ.out 1).trans rfl; have hc2 : W4.cell? ⟨w.heap.size + 1 + 1, 2, none⟩ = some (.slice none 0 0) := (blk_cell HZ.out 2).trans rfl; have hc3 : W4.cell? ⟨w.heap.size + 1 + 1, 3, none⟩ = some (.bool false) := (blk_cell HZ.out 3).trans rfl; have hf0 : W4.frozen? ⟨w.heap.size + 1 + 1, 0, none⟩ = false := frozen_of_row _ _ _ _ _ HZ.out; have hf1 : W4.frozen? ⟨w.heap.size + 1 + 1, 1, none⟩ = false := frozen_of_row _ _ _ _ _ HZ.out; have hf2 : W4.frozen? ⟨w.heap.size + 1 + 1, 2, none⟩ = false := frozen_of_row _ _ _ _ _ HZ.out; have hf3 : W4.frozen? ⟨w.heap.size + 1 + 1, 3, none⟩ = false := frozen_of_row _ _ _ _ _ HZ.out))
  refine bodyPost_ret (results_ct rfl _ _ (w.heap.size + 1 + 1) 24 #[.int .i64 r1, .slice B1 r2.length d1, .slice B2 r3.length d2, .bool r4] (0, 0) _ rfl (by refine blk_put (cs := #[.int .i64 r1, .slice B1 r2.length d1, .slice B2 r3.length d2, .bool false]) ?_ 3 _ rfl; refine blk_put (cs := #[.int .i64 r1, .slice B1 r2.length d1, .slice none 0 0, .bool false]) ?_ 2 _ rfl; refine blk_put (cs := #[.int .i64 r1, .slice none 0 0, .slice none 0 0, .bool false]) ?_ 1 _ rfl; refine blk_put (cs := #[.int .i64 0, .slice none 0 0, .slice none 0 0, .bool false]) ?_ 0 _ rfl; exact HZ.out) Tryd.underlying24 rfl (by kernel_rfl)) rfl ?_
  have hs := HS.out
  refine ⟨_, _, rfl, ?_, ?_, (((HB6.out.setCell (by simp; omega) _).setCell (by simp; omega) _).setCell (by simp; omega) _).setCell (by simp; omega) _⟩
  · exact Kd.R_lower (Kd.R_mono (Kd.R_far (p := ⟨w.heap.size + 1 + 1, 3, none⟩) (Kd.R_far (p := ⟨w.heap.size + 1 + 1, 2, none⟩) (Kd.R_far (p := ⟨w.heap.size + 1 + 1, 1, none⟩) (Kd.R_far (p := ⟨w.heap.size + 1 + 1, 0, none⟩) HR1.out (fun k hk => by have := hk.2; simp; omega) _) (fun k hk => by have := hk.2; simp; omega) _) (fun k hk => by have := hk.2; simp; omega) _) (fun k hk => by have := hk.2; simp; omega) _) (fun k hk => hk.1)) HB5.out
  · exact Kd.R_lower (Kd.R_mono (Kd.R_far (p := ⟨w.heap.size + 1 + 1, 3, none⟩) (Kd.R_far (p := ⟨w.heap.size + 1 + 1, 2, none⟩) (Kd.R_far (p := ⟨w.heap.size + 1 + 1, 1, none⟩) (Kd.R_far (p := ⟨w.heap.size + 1 + 1, 0, none⟩) HR2.out (fun k hk => by have := hk.2; simp; omega) _) (fun k hk => by have := hk.2; simp; omega) _) (fun k hk => by have := hk.2; simp; omega) _) (fun k hk => by have := hk.2; simp; omega) _) (fun k hk => hk.1)) HB5.out

def diedP (t : Int) (l0 l1 : List S38) (fl : Bool) (k b : Int) : Int × List S38 × List S38 × Bool × Int := endP t l0 l1 fl k b (fun s => ⟨0, s.f1, s.f2 + 1⟩) (fun s => false || decide (s.f2 + 1 = t))
set_option maxHeartbeats 4000000 in
set_option maxRecDepth 100000 in
theorem died_any (t : Int) (fl : Bool) (A0 : Option Addr) (c0 : Nat) (l0 : List S38) (A1 : Option Addr) (c1 : Nat) (l1 : List S38) (k b : Int) (r1 : Int) (r2 r3 : List S38) (r4 : Bool) (r5 : Int) (w : World)
    (h0 : Kd.C k38 w A0 l0.length l0) (h1 : Kd.C k38 w A1 l1.length l1) (hl0 : l0.length ≤ 6000000000000) (hl1 : l1.length ≤ 6000000000000) (hT : Tab w) (h : diedP t l0 l1 fl k b = (r1, r2, r3, r4, r5)) :
    Calls Tryd.prog 24 #[.agg #[.int .i64 t, .slice A0 l0.length c0, .slice A1 l1.length c1, .bool fl], .agg #[.int .i64 k, .int .i64 b]] w fun e_ w' =>
      ∃ v1 v2 : Value, e_ = .returned (.tuple #[.agg #[.int .i64 r1, v1, v2, .bool r4], .int .i64 r5]) ∧ Kd.R k38 38 w' w.heap.size (fun k => some k ≠ v2.ownBlock) v1 r2 ∧ Kd.R k38 38 w' w.heap.size (fun k => some k ≠ v1.ownBlock) v2 r3 ∧ Below w.heap.size w w' := by
  have hl3 := lays3_of w t (.slice A0 l0.length c0) (.slice A1 l1.length c1) fl k b
  obtain ⟨W3, hW3⟩ : ∃ W3, w3of w t (.slice A0 l0.length c0) (.slice A1 l1.length c1) fl k b = W3 := ⟨_, rfl⟩
  rw [hW3] at hl3
  unfold w3of at hW3
  have hen := ended_any 50 #[] (enters_of Tryd.func50 (by kernel_rfl) rfl) (fun s => ⟨0, s.f1, s.f2 + 1⟩) (fun s => false || decide (s.f2 + 1 = t)) t fl A0 c0 l0 A1 c1 l1 k b r1 r2 r3 r4 r5 W3 (Kd.C_below h0 hl3.q0) (Kd.C_below h1 hl3.q0) hl0 hl1 (hT.below hl3.q0)
    (fun W gb gs off u0 u1 s g1 g2 g3 g4 g5 g6 g7 => do_charge W gb gs off t u0 u1 false s g3 g4 g5 g1 g2) h
  have HW3 := Aside0.mk hW3
  have HL := Aside0.mk hl3
  have HEN := Aside0.mk hen
  clear hW3 hl3 hen h0 h1 hl0 hl1 hT h
  have hu22 := Tryd.underlying22
  have hu29 := Tryd.underlying29
  have hu24 := Tryd.underlying24
  have hz0 := HL.out.q2.c0
  have hz1 := HL.out.q2.c1
  have hz2 := HL.out.q2.c2
  have hz3 := HL.out.q2.c3
  have hy0 : W3.cell? ⟨w.heap.size + 1, 0, none⟩ = some (.int .i64 k) := (blk_cell HL.out.q3 0).trans rfl
  have hy1 : W3.cell? ⟨w.heap.size + 1, 1, none⟩ = some (.int .i64 b) := (blk_cell HL.out.q3 1).trans rfl
  go_enter Tryd.func24, Tryd.ntmps24
  go_upto_region 1 with (fail)
  rw [HW3.out]
  clear HW3
  go_wp2_with (go_at_call 45; go_must (refine HEN.out.mono ?_; rintro e_ W4 ⟨v1, v2, rfl, hr1, hr2, hB6⟩; have HR1 := Aside0.mk (Kd.R_mono (Kd.R_bound hr1) (fun k hk => (⟨hk.1, hk.2.1⟩ : _ ∧ W3.heap.size ≤ k))); have HR2 := Aside0.mk (Kd.R_mono (Kd.R_bound hr2) (fun k hk => (⟨hk.1, hk.2.1⟩ : _ ∧ W3.heap.size ≤ k))); have HB6 := Aside0.mk (below_step HL.out.q0 hB6); have HZ := Aside0.mk (HL.out.below hB6).2.2.1; have HS := Aside0.mk HL.out.q1; have HB5 := Aside0.mk (below_size HL.out.q0); clear hr1 hr2 hB6 HEN HL hz0 hz1 hz2 hz3 hy0 hy1; obtain ⟨B1, d1, e1⟩ := Kd.R_slice HR1.out; subst e1; obtain ⟨B2, d2, e2⟩ := Kd.R_slice HR2.out; subst e2; have hc0 : W4.cell? ⟨w.heap.size + 1 + 1, 0, none⟩ = some (.int .i64 0) := (blk_cell HZ.out 0).trans rfl; have hc1 : W4.cell? ⟨w.heap.size + 1 + 1, 1, none⟩ = some (.slice none 0 0) := (blk_cell HZ.out 1).trans rfl; have hc2 : W4.cell? ⟨w.heap.size + 1 + 1, 2, none⟩ = some (.slice none 0 0) := (blk_cell HZ.out 2).trans rfl; have hc3 : W4.cell? ⟨w.heap.size + 1 + 1, 3, none⟩ = some (.bool false) := (blk_cell HZ.out 3).trans rfl; have hf0 : W4.frozen? ⟨w.heap.size + 1 + 1, 0, none⟩ = false := frozen_of_row _ _ _ _ _ HZ.out; have hf1 : W4.frozen? ⟨w.heap.size + 1 + 1, 1, none⟩ = false := frozen_of_row _ _ _ _ _ HZ.out; have hf2 : W4.frozen? ⟨w.heap.size + 1 + 1, 2, none⟩ = false := frozen_of_row _ _ _ _ _ HZ.out; have hf3 : W4.frozen? ⟨w.heap.size + 1 + 1, 3, none⟩ = false := frozen_of_row _ _ _ _ _ HZ.out))
  refine bodyPost_ret (results_ct rfl _ _ (w.heap.size + 1 + 1) 24 #[.int .i64 r1, .slice B1 r2.length d1, .slice B2 r3.length d2, .bool r4] (0, 0) _ rfl (by refine blk_put (cs := #[.int .i64 r1, .slice B1 r2.length d1, .slice B2 r3.length d2, .bool false]) ?_ 3 _ rfl; refine blk_put (cs := #[.int .i64 r1, .slice B1 r2.length d1, .slice none 0 0, .bool false]) ?_ 2 _ rfl; refine blk_put (cs := #[.int .i64 r1, .slice none 0 0, .slice none 0 0, .bool false]) ?_ 1 _ rfl; refine blk_put (cs := #[.int .i64 0, .slice none 0 0, .slice none 0 0, .bool false]) ?_ 0 _ rfl; exact HZ.out) Tryd.underlying24 rfl (by kernel_rfl)) rfl ?_
  have hs := HS.out
  refine ⟨_, _, rfl, ?_, ?_, (((HB6.out.setCell (by simp; omega) _).setCell (by simp; omega) _).setCell (by simp; omega) _).setCell (by simp; omega) _⟩
  · exact Kd.R_lower (Kd.R_mono (Kd.R_far (p := ⟨w.heap.size + 1 + 1, 3, none⟩) (Kd.R_far (p := ⟨w.heap.size + 1 + 1, 2, none⟩) (Kd.R_far (p := ⟨w.heap.size + 1 + 1, 1, none⟩) (Kd.R_far (p := ⟨w.heap.size + 1 + 1, 0, none⟩) HR1.out (fun k hk => by have := hk.2; simp; omega) _) (fun k hk => by have := hk.2; simp; omega) _) (fun k hk => by have := hk.2; simp; omega) _) (fun k hk => by have := hk.2; simp; omega) _) (fun k hk => hk.1)) HB5.out
  · exact Kd.R_lower (Kd.R_mono (Kd.R_far (p := ⟨w.heap.size + 1 + 1, 3, none⟩) (Kd.R_far (p := ⟨w.heap.size + 1 + 1, 2, none⟩) (Kd.R_far (p := ⟨w.heap.size + 1 + 1, 1, none⟩) (Kd.R_far (p := ⟨w.heap.size + 1 + 1, 0, none⟩) HR2.out (fun k hk => by have := hk.2; simp; omega) _) (fun k hk => by have := hk.2; simp; omega) _) (fun k hk => by have := hk.2; simp; omega) _) (fun k hk => by have := hk.2; simp; omega) _) (fun k hk => hk.1)) HB5.out
end Go.Proofs.YtponmfnegdlppaaDoor.P

end
section
-- Written by a program of this session (wip/tools/hprint.py, over the kit's printer), not by hand. Lean checks it.
namespace Go.Proofs.YtponmfnegdlppaaDoor.P
open Go.RowKit Go.Proofs.YtponmfnegdlppaaDoorW.PrintWords Go.Proofs.YtponmfnegdlppaaDoorW.PrintLast Go.Proofs.YtponmfnegdlppaaDoorW.PrintMore
attribute [local go_sem] max2_int min2_int max_two min_two max_three min_three max_four min_four
set_option linter.unusedVariables false
set_option linter.unusedSimpArgs false

/-! ### ledger_all: function 40 -/
def ledger_all.l0 : Nat → List (S38) → Int → Int → Option (Bool)
  | 0, _, _, _ => none
  | k + 1, x5, x6, x7 => if x7 < x6 then (if 0 ≤ x7 then (if x7 < (x5.length : Int) then (if ((rd_T38 x5 x7).f0) = 3 then (ledger_all.l0 k x5 x6 (wrap64 (x7 + 1))) else (some false)) else (none)) else (none)) else (some true)
def ledger_all.f (k : Nat) (l0 : List (S38)) : Option (Bool) := ledger_all.l0 k l0 (l0.length : Int) 0
theorem ledger_all.mono_l : ∀ k, (∀ y0 y1 y2, LeO (ledger_all.l0 k y0 y1 y2) (ledger_all.l0 (k + 1) y0 y1 y2))
  | 0 => fun _ _ _ r h => by simp [ledger_all.l0] at h
  | k + 1 => by
    have ih0 := ledger_all.mono_l k
    · intro y0 y1 y2
      unfold ledger_all.l0
      repeat' first
      | (with_reducible exact ih0 _ _ _)
      | (with_reducible exact LeO.refl _)
      | (with_reducible exact LeO.none _)
      | (with_reducible refine LeO.ite ?_ ?_)
      | (with_reducible refine LeO.bind ?_ (fun _ => ?_))
      | exact ih0 _ _ _
      | exact LeO.none _
      | refine LeO.ite ?_ ?_
      | refine LeO.bind ?_ (fun _ => ?_)
theorem ledger_all.mono : ∀ a0 k, LeO (ledger_all.f k a0) (ledger_all.f (k + 1) a0) := by
  intro a0 k
  have ih0 := ledger_all.mono_l k
  unfold ledger_all.f
  repeat' first
      | (with_reducible exact ih0 _ _ _)
      | (with_reducible exact LeO.refl _)
      | (with_reducible exact LeO.none _)
      | (with_reducible refine LeO.ite ?_ ?_)
      | (with_reducible refine LeO.bind ?_ (fun _ => ?_))
      | exact ih0 _ _ _
      | exact LeO.none _
      | refine LeO.ite ?_ ?_
      | refine LeO.bind ?_ (fun _ => ?_)
set_option maxHeartbeats 8000000 in
set_option maxRecDepth 100000 in
theorem ledger_all.calls (k : Nat) (A0 : Option Addr) (c0 : Nat) (l0 : List (S38)) (r : Bool) (w : World) (hr0 : Kd.C k38 w A0 l0.length l0) (hc0 : l0.length ≤ c0) (h : ledger_all.f k l0 = some r) :
    Calls Tryd.prog 40 #[.slice A0 l0.length c0] w fun e w' => e = .returned (.bool r) ∧ Below w.heap.size w w' := by
  have hu38 := Tryd.underlying38
  have HR0 := Aside0.mk hr0
  have HC0 := Aside0.mk hc0
  clear hr0 hc0
  have HB := Aside0.mk (Below.refl w.heap.size w)
  have H : (ledger_all.l0 k l0 (l0.length : Int) 0) = some r := h
  clear h
  have H' := Aside0.mk H
  clear H
  go_enter Tryd.func40, Tryd.ntmps40
  go_wp2
  go_loopg [7] k (fun kq v7 w' => ∃ (x7_1 : Int), v7 = .int .i64 x7_1 ∧ Aside0 (ledger_all.l0 kq l0 (l0.length : Int) x7_1 = some r) ∧ Aside0 (kq ≤ k) ∧ Aside0 (Below w.heap.size w w'))
  case atStart => exact ⟨(0), (by first | rfl | (simp; done) | (simp [*]; done)), H', ⟨Nat.le_refl _⟩, ⟨by repeat (first | (with_reducible first | exact HB.out | apply below_alloc | apply pw_below_drewN | apply below_drew1) | exact HB.out)⟩⟩
  case round =>
    clear H'
    obtain ⟨x7_1, rfl, HA, HK1, HB⟩ := hrel
    cases gk with
    | zero => exact absurd HA.out (by simp [ledger_all.l0])
    | succ k1 =>
      have H := HA.out
      clear HA
      simp only [ledger_all.l0] at H
      by_cases c2 : x7_1 < (l0.length : Int)
      · rw [if_pos c2] at H
        have c2b0 : decide (x7_1 < (l0.length : Int)) = true := decide_eq_true c2
        clear c2
        by_cases c3 : 0 ≤ x7_1
        · rw [if_pos c3] at H
          have c3b0 : decide (0 ≤ x7_1) = true := decide_eq_true c3
          clear c3
          by_cases c4 : x7_1 < (l0.length : Int)
          · rw [if_pos c4] at H
            have c4b0 : decide (x7_1 < (l0.length : Int)) = true := decide_eq_true c4
            clear c4
            by_cases c5 : ((rd_T38 l0 x7_1).f0) = 3
            · rw [if_pos c5] at H
              have c5b0 : (((rd_T38 l0 x7_1).f0) == 3) = true := beq_iff_eq.mpr c5
              have c5b1 : (((rd_T38 l0 x7_1).f0) != 3) = false := bne_eq_false_iff_eq.mpr c5
              clear c5
              have H' := Aside0.mk H
              clear H
              have p119 : 0 ≤ (x7_1 : Int) := of_decide_eq_true (by first | (with_reducible assumption) | assumption)
              have q119 : x7_1 < (l0.length : Int) := of_decide_eq_true (by first | (with_reducible assumption) | assumption)
              obtain ⟨ad119, e119, hx119_0, hx119_1, hx119_2⟩ := at_T38 HR0.out x7_1 p119 q119
              cases e119
              replace hx119_0 := (HB.out.cell (World.block_lt_of_cell? w _ hx119_0)).trans hx119_0
              replace hx119_1 := (HB.out.cell (World.block_lt_of_cell? w _ hx119_1)).trans hx119_1
              replace hx119_2 := (HB.out.cell (World.block_lt_of_cell? w _ hx119_2)).trans hx119_2
              replace p119 := eq_true p119
              replace q119 := eq_true q119
              go_wp2_with (first | ((with_reducible refine gate_dst (N := 4) rfl ?_); refine box_event ?hg (N := 4) ?hd (cs := #[.int .i64 0, .int .i64 0, .int .i64 0]) (t := 38) ?hr ?_; (case hd => rfl); (case hg => rfl); (case hr => first | (go_simp; done) | (go_simp; rfl)); intro gb120 hg w6 hbox hb; have n0_ := Aside0.mk (below_step (by repeat (first | (with_reducible first | exact HB.out | apply below_alloc | apply pw_below_drewN | apply below_drew1) | exact HB.out)) hb); have n1_ := Aside0.mk (hbox); have n2_ := Aside0.mk ((by rw [hg]; exact (below_size (by repeat (first | (with_reducible first | exact HB.out | apply below_alloc | apply pw_below_drewN | apply below_drew1) | exact HB.out))) : w.heap.size ≤ gb120)); have n3_ := Aside0.mk ((by rw [hg]; exact (below_size (by repeat (first | (with_reducible first | exact HB.out | apply below_alloc | apply pw_below_drewN | apply below_drew1) | exact HB.out))) : w.heap.size ≤ gb120)); clear HB; have HB := n0_; have BK120 := n1_; have GW120 := n2_; have GE120 := n3_; clear n0_ n1_ n2_ n3_; clear hb hbox hg; have hcz7_0 : w6.cell? ⟨gb120, 0, none⟩ = some (.int .i64 0) := (blk_cell BK120.out 0).trans rfl; have hcz7_1 : w6.cell? ⟨gb120, 1, none⟩ = some (.int .i64 0) := (blk_cell BK120.out 1).trans rfl; have hcz7_2 : w6.cell? ⟨gb120, 2, none⟩ = some (.int .i64 0) := (blk_cell BK120.out 2).trans rfl; have hfz7_0 := blk_frozen BK120.out 0; have hfz7_1 := blk_frozen BK120.out 1; have hfz7_2 := blk_frozen BK120.out 2))
              go_roundg k1
              case measure => have := HK1.out; omega
              case rel => exact ⟨(wrap64 (x7_1 + 1)), (by first | rfl | (simp; done) | (simp [*]; done)), H', ⟨by have := HK1.out; omega⟩, ⟨by repeat (first | (with_reducible first | exact HB.out | apply below_alloc | apply pw_below_drewN | apply below_drew1 | refine below_set ?_ GE120.out) | exact HB.out)⟩⟩
            · rw [if_neg c5] at H
              have c5b0 : (((rd_T38 l0 x7_1).f0) == 3) = false := beq_eq_false_iff_ne.mpr c5
              have c5b1 : (((rd_T38 l0 x7_1).f0) != 3) = true := bne_iff_ne.mpr c5
              obtain rfl := Option.some.inj H
              have p119 : 0 ≤ (x7_1 : Int) := of_decide_eq_true (by first | (with_reducible assumption) | assumption)
              have q119 : x7_1 < (l0.length : Int) := of_decide_eq_true (by first | (with_reducible assumption) | assumption)
              obtain ⟨ad119, e119, hx119_0, hx119_1, hx119_2⟩ := at_T38 HR0.out x7_1 p119 q119
              cases e119
              replace hx119_0 := (HB.out.cell (World.block_lt_of_cell? w _ hx119_0)).trans hx119_0
              replace hx119_1 := (HB.out.cell (World.block_lt_of_cell? w _ hx119_1)).trans hx119_1
              replace hx119_2 := (HB.out.cell (World.block_lt_of_cell? w _ hx119_2)).trans hx119_2
              replace p119 := eq_true p119
              replace q119 := eq_true q119
              go_wp2_with (first | ((with_reducible refine gate_dst (N := 4) rfl ?_); refine box_event ?hg (N := 4) ?hd (cs := #[.int .i64 0, .int .i64 0, .int .i64 0]) (t := 38) ?hr ?_; (case hd => rfl); (case hg => rfl); (case hr => first | (go_simp; done) | (go_simp; rfl)); intro gb120 hg w8 hbox hb; have n0_ := Aside0.mk (below_step (by repeat (first | (with_reducible first | exact HB.out | apply below_alloc | apply pw_below_drewN | apply below_drew1) | exact HB.out)) hb); have n1_ := Aside0.mk (hbox); have n2_ := Aside0.mk ((by rw [hg]; exact (below_size (by repeat (first | (with_reducible first | exact HB.out | apply below_alloc | apply pw_below_drewN | apply below_drew1) | exact HB.out))) : w.heap.size ≤ gb120)); have n3_ := Aside0.mk ((by rw [hg]; exact (below_size (by repeat (first | (with_reducible first | exact HB.out | apply below_alloc | apply pw_below_drewN | apply below_drew1) | exact HB.out))) : w.heap.size ≤ gb120)); clear HB; have HB := n0_; have BK120 := n1_; have GW120 := n2_; have GE120 := n3_; clear n0_ n1_ n2_ n3_; clear hb hbox hg; have hcz9_0 : w8.cell? ⟨gb120, 0, none⟩ = some (.int .i64 0) := (blk_cell BK120.out 0).trans rfl; have hcz9_1 : w8.cell? ⟨gb120, 1, none⟩ = some (.int .i64 0) := (blk_cell BK120.out 1).trans rfl; have hcz9_2 : w8.cell? ⟨gb120, 2, none⟩ = some (.int .i64 0) := (blk_cell BK120.out 2).trans rfl; have hfz9_0 := blk_frozen BK120.out 0; have hfz9_1 := blk_frozen BK120.out 1; have hfz9_2 := blk_frozen BK120.out 2))
              go_ret
              exact ⟨by first | rfl | (simp [errW_none, errW_some] <;> rfl) | (simp [*, errW_none, errW_some] <;> rfl), by repeat (first | (with_reducible first | exact HB.out | apply below_alloc | apply pw_below_drewN | apply below_drew1 | refine below_set ?_ GE120.out) | exact HB.out)⟩
          · rw [if_neg c4] at H
            exact absurd H (by simp)
        · rw [if_neg c3] at H
          exact absurd H (by simp)
      · rw [if_neg c2] at H
        have c2b0 : decide (x7_1 < (l0.length : Int)) = false := decide_eq_false c2
        clear c2
        obtain rfl := Option.some.inj H
        go_wp2
        go_ret
        exact ⟨by first | rfl | (simp [errW_none, errW_some] <;> rfl) | (simp [*, errW_none, errW_some] <;> rfl), by repeat (first | (with_reducible first | exact HB.out | apply below_alloc | apply pw_below_drewN | apply below_drew1) | exact HB.out)⟩

end Go.Proofs.YtponmfnegdlppaaDoor.P

end
section
-- Written by a program of this session (wip/tools/hprint.py, over the kit's printer), not by hand. Lean checks it.
namespace Go.Proofs.YtponmfnegdlppaaDoor.P
open Go.RowKit Go.Proofs.YtponmfnegdlppaaDoorW.PrintWords Go.Proofs.YtponmfnegdlppaaDoorW.PrintLast Go.Proofs.YtponmfnegdlppaaDoorW.PrintMore
attribute [local go_sem] max2_int min2_int max_two min_two max_three min_three max_four min_four
set_option linter.unusedVariables false
set_option linter.unusedSimpArgs false

/-! ### ledger_Ready: function 11 -/
mutual
def ledger_Ready.j0 : Nat → Bool → Int → List (S38) → List (S38) → Bool → Option ((List (S29)))
  | 0, _, _, _, _, _ => none
  | k + 1, x14, x122000, x122001, x122002, x122003 => if x14 = true then (some ([] : List (S29))) else (ledger_Ready.l0 k ([] : List (S29)) x122001 (x122001.length : Int) 0 x122000 x122001 x122002 x122003)
def ledger_Ready.l0 : Nat → List (S29) → List (S38) → Int → Int → Int → List (S38) → List (S38) → Bool → Option ((List (S29)))
  | 0, _, _, _, _, _, _, _, _ => none
  | k + 1, x3, x16, x17, x18, x122000, x122001, x122002, x122003 => if x18 < x17 then (if 0 ≤ x18 then (if x18 < (x16.length : Int) then (if ((rd_T38 x16 x18).f0) = 0 then (if x3.length < 8796093022208 then (ledger_Ready.l0 k (x3 ++ [(⟨0, x18⟩ : S29)]) x16 x17 (wrap64 (x18 + 1)) x122000 x122001 x122002 x122003) else (none)) else (ledger_Ready.l0 k x3 x16 x17 (wrap64 (x18 + 1)) x122000 x122001 x122002 x122003)) else (none)) else (none)) else ((ledger_all.f k x122001).bind fun t128 => (if t128 = true then (ledger_Ready.l1 k x3 x122002 (x122002.length : Int) 0) else (some x3)))
def ledger_Ready.l1 : Nat → List (S29) → List (S38) → Int → Int → Option ((List (S29)))
  | 0, _, _, _, _ => none
  | k + 1, x3, x38, x39, x40 => if x40 < x39 then (if 0 ≤ x40 then (if x40 < (x38.length : Int) then (if ((rd_T38 x38 x40).f0) = 0 then (if x3.length < 8796093022208 then (ledger_Ready.l1 k (x3 ++ [(⟨1, x40⟩ : S29)]) x38 x39 (wrap64 (x40 + 1))) else (none)) else (if ((rd_T38 x38 x40).f0) = 2 then (if x3.length < 8796093022208 then (ledger_Ready.l1 k (x3 ++ [(⟨1, x40⟩ : S29)]) x38 x39 (wrap64 (x40 + 1))) else (none)) else (ledger_Ready.l1 k x3 x38 x39 (wrap64 (x40 + 1))))) else (none)) else (none)) else (some x3)
end
def ledger_Ready.f (k : Nat) (a0_0 : Int) (l0_1 : List (S38)) (l0_2 : List (S38)) (a0_3 : Bool) : Option ((List (S29))) := (ledger_Check.f a0_0 l0_1 l0_2 a0_3).bind fun t122 => (if t122 = 0 then (ledger_Ready.j0 k a0_3 a0_0 l0_1 l0_2 a0_3) else (ledger_Ready.j0 k true a0_0 l0_1 l0_2 a0_3))
theorem ledger_Ready.mono_l : ∀ k, (∀ y0 y1 y2 y3 y4, LeO (ledger_Ready.j0 k y0 y1 y2 y3 y4) (ledger_Ready.j0 (k + 1) y0 y1 y2 y3 y4)) ∧ (∀ y0 y1 y2 y3 y4 y5 y6 y7, LeO (ledger_Ready.l0 k y0 y1 y2 y3 y4 y5 y6 y7) (ledger_Ready.l0 (k + 1) y0 y1 y2 y3 y4 y5 y6 y7)) ∧ (∀ y0 y1 y2 y3, LeO (ledger_Ready.l1 k y0 y1 y2 y3) (ledger_Ready.l1 (k + 1) y0 y1 y2 y3))
  | 0 => ⟨fun _ _ _ _ _ r h => by simp [ledger_Ready.j0] at h, fun _ _ _ _ _ _ _ _ r h => by simp [ledger_Ready.l0] at h, fun _ _ _ _ r h => by simp [ledger_Ready.l1] at h⟩
  | k + 1 => by
    obtain ⟨ih0, ih1, ih2⟩ := ledger_Ready.mono_l k
    refine ⟨?_, ?_, ?_⟩
    · intro y0 y1 y2 y3 y4
      unfold ledger_Ready.j0
      repeat' first
      | (with_reducible exact ih0 _ _ _ _ _)
      | (with_reducible exact ih1 _ _ _ _ _ _ _ _)
      | (with_reducible exact ih2 _ _ _ _)
      | (with_reducible exact ledger_all.mono _ _)
      | (with_reducible exact LeO.refl _)
      | (with_reducible exact LeO.none _)
      | (with_reducible refine LeO.ite ?_ ?_)
      | (with_reducible refine LeO.bind ?_ (fun _ => ?_))
      | exact ih0 _ _ _ _ _
      | exact ih1 _ _ _ _ _ _ _ _
      | exact ih2 _ _ _ _
      | exact ledger_all.mono _ _
      | exact LeO.none _
      | refine LeO.ite ?_ ?_
      | refine LeO.bind ?_ (fun _ => ?_)
    · intro y0 y1 y2 y3 y4 y5 y6 y7
      unfold ledger_Ready.l0
      repeat' first
      | (with_reducible exact ih0 _ _ _ _ _)
      | (with_reducible exact ih1 _ _ _ _ _ _ _ _)
      | (with_reducible exact ih2 _ _ _ _)
      | (with_reducible exact ledger_all.mono _ _)
      | (with_reducible exact LeO.refl _)
      | (with_reducible exact LeO.none _)
      | (with_reducible refine LeO.ite ?_ ?_)
      | (with_reducible refine LeO.bind ?_ (fun _ => ?_))
      | exact ih0 _ _ _ _ _
      | exact ih1 _ _ _ _ _ _ _ _
      | exact ih2 _ _ _ _
      | exact ledger_all.mono _ _
      | exact LeO.none _
      | refine LeO.ite ?_ ?_
      | refine LeO.bind ?_ (fun _ => ?_)
    · intro y0 y1 y2 y3
      unfold ledger_Ready.l1
      repeat' first
      | (with_reducible exact ih0 _ _ _ _ _)
      | (with_reducible exact ih1 _ _ _ _ _ _ _ _)
      | (with_reducible exact ih2 _ _ _ _)
      | (with_reducible exact ledger_all.mono _ _)
      | (with_reducible exact LeO.refl _)
      | (with_reducible exact LeO.none _)
      | (with_reducible refine LeO.ite ?_ ?_)
      | (with_reducible refine LeO.bind ?_ (fun _ => ?_))
      | exact ih0 _ _ _ _ _
      | exact ih1 _ _ _ _ _ _ _ _
      | exact ih2 _ _ _ _
      | exact ledger_all.mono _ _
      | exact LeO.none _
      | refine LeO.ite ?_ ?_
      | refine LeO.bind ?_ (fun _ => ?_)
theorem ledger_Ready.mono : ∀ a0 a1 a2 a3 k, LeO (ledger_Ready.f k a0 a1 a2 a3) (ledger_Ready.f (k + 1) a0 a1 a2 a3) := by
  intro a0 a1 a2 a3 k
  obtain ⟨ih0, ih1, ih2⟩ := ledger_Ready.mono_l k
  unfold ledger_Ready.f
  repeat' first
      | (with_reducible exact ih0 _ _ _ _ _)
      | (with_reducible exact ih1 _ _ _ _ _ _ _ _)
      | (with_reducible exact ih2 _ _ _ _)
      | (with_reducible exact ledger_all.mono _ _)
      | (with_reducible exact LeO.refl _)
      | (with_reducible exact LeO.none _)
      | (with_reducible refine LeO.ite ?_ ?_)
      | (with_reducible refine LeO.bind ?_ (fun _ => ?_))
      | exact ih0 _ _ _ _ _
      | exact ih1 _ _ _ _ _ _ _ _
      | exact ih2 _ _ _ _
      | exact ledger_all.mono _ _
      | exact LeO.none _
      | refine LeO.ite ?_ ?_
      | refine LeO.bind ?_ (fun _ => ?_)
set_option maxHeartbeats 8000000 in
set_option maxRecDepth 100000 in
theorem ledger_Ready.calls (k : Nat) (a0_0 : Int) (A0_1 : Option Addr) (c0_1 : Nat) (l0_1 : List (S38)) (A0_2 : Option Addr) (c0_2 : Nat) (l0_2 : List (S38)) (a0_3 : Bool) (r : List (S29)) (w : World) (hr0_1 : Kd.C k38 w A0_1 l0_1.length l0_1) (hc0_1 : l0_1.length ≤ c0_1) (hr0_2 : Kd.C k38 w A0_2 l0_2.length l0_2) (hc0_2 : l0_2.length ≤ c0_2) (h : ledger_Ready.f k a0_0 l0_1 l0_2 a0_3 = some r) (hTAB_ : Tab w) :
    Calls Tryd.prog 11 #[.agg #[.int .i64 a0_0, .slice A0_1 l0_1.length c0_1, .slice A0_2 l0_2.length c0_2, .bool a0_3]] w fun e w' => ∃ v0_ : Value, e = .returned (v0_) ∧ Kd.R k29 29 w' w.heap.size (fun _ => True) v0_ r ∧ Below w.heap.size w w' := by
  have HTAB := Aside0.mk hTAB_
  clear hTAB_
  have hu24 := Tryd.underlying24
  have hu38 := Tryd.underlying38
  have hu29 := Tryd.underlying29
  have HR0_1 := Aside0.mk hr0_1
  have HC0_1 := Aside0.mk hc0_1
  clear hr0_1 hc0_1
  have HR0_2 := Aside0.mk hr0_2
  have HC0_2 := Aside0.mk hc0_2
  clear hr0_2 hc0_2
  have HB := Aside0.mk (Below.refl w.heap.size w)
  have H : ((ledger_Check.f a0_0 l0_1 l0_2 a0_3).bind fun t122 => (if t122 = 0 then (ledger_Ready.j0 k a0_3 a0_0 l0_1 l0_2 a0_3) else (ledger_Ready.j0 k true a0_0 l0_1 l0_2 a0_3))) = some r := h
  clear h
  have HC2 := Aside0.mk H
  clear H
  go_enter Tryd.func11, Tryd.ntmps11
  go_upto_region 1 with (first | ((with_reducible refine gate_dst (N := 1) rfl ?_); refine box_event ?hg (N := 1) ?hd (cs := #[.int .i64 a0_0, .slice A0_1 l0_1.length c0_1, .slice A0_2 l0_2.length c0_2, .bool a0_3]) (t := 24) ?hr ?_; (case hd => rfl); (case hg => rfl); (case hr => first | (go_simp; done) | (go_simp; rfl)); intro gb121 hg w3 hbox hb; have n0_ := Aside0.mk (below_step (by repeat (first | (with_reducible first | exact HB.out | apply below_alloc | apply pw_below_drewN | apply below_drew1) | exact HB.out)) hb); have n1_ := Aside0.mk (hbox); have n2_ := Aside0.mk ((by rw [hg]; exact (below_size (by repeat (first | (with_reducible first | exact HB.out | apply below_alloc | apply pw_below_drewN | apply below_drew1) | exact HB.out))) : w.heap.size ≤ gb121)); have n3_ := Aside0.mk ((by rw [hg]; exact (below_size (by repeat (first | (with_reducible first | exact HB.out | apply below_alloc | apply pw_below_drewN | apply below_drew1) | exact HB.out))) : w.heap.size ≤ gb121)); clear HB; have HB := n0_; have BK121 := n1_; have GW121 := n2_; have GE121 := n3_; clear n0_ n1_ n2_ n3_; clear hb hbox hg))
  (try simp only [Act.put, List.setIfInBounds_toArray, List.set_cons_zero, List.set_cons_succ])
  go_cut [14] (fun v14 wc => ∃ (kq : Nat) (x14_1 : Bool), v14 = .bool x14_1 ∧ Aside0 (ledger_Ready.j0 kq x14_1 a0_0 l0_1 l0_2 a0_3 = some r) ∧ Aside0 (kq ≤ k) ∧ Aside0 (wc.heap[gb121]? = some (.cells #[.int .i64 a0_0, (.slice A0_1 l0_1.length c0_1), (.slice A0_2 l0_2.length c0_2), .bool a0_3] 24 (0, 0))) ∧ Aside0 (Below w.heap.size w wc))
  case first =>
    have H := HC2.out
    clear HC2
    replace H := Option.bind_eq_some_iff.mp H
    obtain ⟨t122, A40, H⟩ := H
    replace H : (if t122 = 0 then (ledger_Ready.j0 k a0_3 a0_0 l0_1 l0_2 a0_3) else (ledger_Ready.j0 k true a0_0 l0_1 l0_2 a0_3)) = some r := H
    have A4 := Aside0.mk A40
    clear A40
    by_cases c5 : t122 = 0
    · rw [if_pos c5] at H
      have c5b0 : (t122 == 0) = true := beq_iff_eq.mpr c5
      have c5b1 : (t122 != 0) = false := bne_eq_false_iff_eq.mpr c5
      clear c5
      (first | rw [c5b0] | (simp only [i64_w, i32_w]; rw [c5b0]) | skip)
      have H' := Aside0.mk H
      clear H
      have hcz6_0 : w3.cell? ⟨gb121, 0, none⟩ = some (.int .i64 a0_0) := (blk_cell BK121.out 0).trans rfl
      have hcz6_1 : w3.cell? ⟨gb121, 1, none⟩ = some (.slice A0_1 l0_1.length c0_1) := (blk_cell BK121.out 1).trans rfl
      have hcz6_2 : w3.cell? ⟨gb121, 2, none⟩ = some (.slice A0_2 l0_2.length c0_2) := (blk_cell BK121.out 2).trans rfl
      have hcz6_3 : w3.cell? ⟨gb121, 3, none⟩ = some (.bool a0_3) := (blk_cell BK121.out 3).trans rfl
      have hfz6_0 := blk_frozen BK121.out 0
      have hfz6_1 := blk_frozen BK121.out 1
      have hfz6_2 := blk_frozen BK121.out 2
      have hfz6_3 := blk_frozen BK121.out 3
      go_wp2_with (first | ((with_reducible refine gate_callee (f := 15) rfl ?_); refine goesL_ (some 9) rfl rfl Tryd.func15 (by kernel_rfl) rfl #[.agg #[.int .i64 a0_0, .slice A0_1 l0_1.length c0_1, .slice A0_2 l0_2.length c0_2, .bool a0_3]] rfl (by (try simp only [List.map_toArray, List.map_cons, List.map_nil]); first | done | rfl | (simp only [List.length_drop, List.length_take]; rfl)) ?_; (with_reducible refine (ledger_Check.calls a0_0 _ _ l0_1 _ _ l0_2 a0_3 t122 _ ?side1 ?side2 ?side3 ?side4 A4.out (by first | exact HTAB.out | exact Tab.below HTAB.out HB.out | (repeat (first | apply Tab.drewN | apply Tab.drew)); exact HTAB.out)).mono ?_); (case side1 => repeat (first | exact (Kd.C_below HR0_1.out HB.out) | (with_reducible refine Kd.C_alloc ?_ _) | (with_reducible refine Kd.C_drewN ?_ _) | (with_reducible refine Kd.C_drew ?_))); (case side2 => exact HC0_1.out); (case side3 => repeat (first | exact (Kd.C_below HR0_2.out HB.out) | (with_reducible refine Kd.C_alloc ?_ _) | (with_reducible refine Kd.C_drewN ?_ _) | (with_reducible refine Kd.C_drew ?_))); (case side4 => exact HC0_2.out); rintro e w7 ⟨rfl, hb⟩; refine ⟨_, rfl, ?_⟩; have n0_ := Aside0.mk (blk_below (g := gb121) (o := .cells #[.int .i64 a0_0, .slice A0_1 l0_1.length c0_1, .slice A0_2 l0_2.length c0_2, .bool a0_3] 24 (0, 0)) (by (with_reducible repeat (first | refine blk_drewN ?_ _ | refine blk_drew ?_ | refine blk_alloc ?_ _)); exact BK121.out) hb); have n1_ := Aside0.mk (below_step (by repeat (first | (with_reducible first | exact HB.out | apply below_alloc | apply pw_below_drewN | apply below_drew1 | refine below_set ?_ GE121.out) | exact HB.out)) hb); clear BK121; clear HB; have BK121 := n0_; have HB := n1_; clear n0_ n1_; (try clear hb); (try clear hb2); (try clear hk); (try clear hi); have hcz8_0 : w7.cell? ⟨gb121, 0, none⟩ = some (.int .i64 a0_0) := (blk_cell BK121.out 0).trans rfl; have hcz8_1 : w7.cell? ⟨gb121, 1, none⟩ = some (.slice A0_1 l0_1.length c0_1) := (blk_cell BK121.out 1).trans rfl; have hcz8_2 : w7.cell? ⟨gb121, 2, none⟩ = some (.slice A0_2 l0_2.length c0_2) := (blk_cell BK121.out 2).trans rfl; have hcz8_3 : w7.cell? ⟨gb121, 3, none⟩ = some (.bool a0_3) := (blk_cell BK121.out 3).trans rfl; have hfz8_0 := blk_frozen BK121.out 0; have hfz8_1 := blk_frozen BK121.out 1; have hfz8_2 := blk_frozen BK121.out 2; have hfz8_3 := blk_frozen BK121.out 3))
      go_meet
      case rel => exact ⟨_, (a0_3), (by first | rfl | (simp; done) | (simp [*]; done)), H', ⟨by first | omega | exact Nat.le_refl _⟩, ⟨by (with_reducible repeat (first | refine blk_drewN ?_ _ | refine blk_drew ?_ | refine blk_alloc ?_ _)); exact BK121.out⟩, ⟨by repeat (first | (with_reducible first | exact HB.out | apply below_alloc | apply pw_below_drewN | apply below_drew1 | refine below_set ?_ GE121.out) | exact HB.out)⟩⟩
    · rw [if_neg c5] at H
      have c5b0 : (t122 == 0) = false := beq_eq_false_iff_ne.mpr c5
      have c5b1 : (t122 != 0) = true := bne_iff_ne.mpr c5
      (first | rw [c5b0] | (simp only [i64_w, i32_w]; rw [c5b0]) | skip)
      have H' := Aside0.mk H
      clear H
      have hcz9_0 : w3.cell? ⟨gb121, 0, none⟩ = some (.int .i64 a0_0) := (blk_cell BK121.out 0).trans rfl
      have hcz9_1 : w3.cell? ⟨gb121, 1, none⟩ = some (.slice A0_1 l0_1.length c0_1) := (blk_cell BK121.out 1).trans rfl
      have hcz9_2 : w3.cell? ⟨gb121, 2, none⟩ = some (.slice A0_2 l0_2.length c0_2) := (blk_cell BK121.out 2).trans rfl
      have hcz9_3 : w3.cell? ⟨gb121, 3, none⟩ = some (.bool a0_3) := (blk_cell BK121.out 3).trans rfl
      have hfz9_0 := blk_frozen BK121.out 0
      have hfz9_1 := blk_frozen BK121.out 1
      have hfz9_2 := blk_frozen BK121.out 2
      have hfz9_3 := blk_frozen BK121.out 3
      go_wp2_with (first | ((with_reducible refine gate_callee (f := 15) rfl ?_); refine goesL_ (some 9) rfl rfl Tryd.func15 (by kernel_rfl) rfl #[.agg #[.int .i64 a0_0, .slice A0_1 l0_1.length c0_1, .slice A0_2 l0_2.length c0_2, .bool a0_3]] rfl (by (try simp only [List.map_toArray, List.map_cons, List.map_nil]); first | done | rfl | (simp only [List.length_drop, List.length_take]; rfl)) ?_; (with_reducible refine (ledger_Check.calls a0_0 _ _ l0_1 _ _ l0_2 a0_3 t122 _ ?side1 ?side2 ?side3 ?side4 A4.out (by first | exact HTAB.out | exact Tab.below HTAB.out HB.out | (repeat (first | apply Tab.drewN | apply Tab.drew)); exact HTAB.out)).mono ?_); (case side1 => repeat (first | exact (Kd.C_below HR0_1.out HB.out) | (with_reducible refine Kd.C_alloc ?_ _) | (with_reducible refine Kd.C_drewN ?_ _) | (with_reducible refine Kd.C_drew ?_))); (case side2 => exact HC0_1.out); (case side3 => repeat (first | exact (Kd.C_below HR0_2.out HB.out) | (with_reducible refine Kd.C_alloc ?_ _) | (with_reducible refine Kd.C_drewN ?_ _) | (with_reducible refine Kd.C_drew ?_))); (case side4 => exact HC0_2.out); rintro e w10 ⟨rfl, hb⟩; refine ⟨_, rfl, ?_⟩; have n0_ := Aside0.mk (blk_below (g := gb121) (o := .cells #[.int .i64 a0_0, .slice A0_1 l0_1.length c0_1, .slice A0_2 l0_2.length c0_2, .bool a0_3] 24 (0, 0)) (by (with_reducible repeat (first | refine blk_drewN ?_ _ | refine blk_drew ?_ | refine blk_alloc ?_ _)); exact BK121.out) hb); have n1_ := Aside0.mk (below_step (by repeat (first | (with_reducible first | exact HB.out | apply below_alloc | apply pw_below_drewN | apply below_drew1 | refine below_set ?_ GE121.out) | exact HB.out)) hb); clear BK121; clear HB; have BK121 := n0_; have HB := n1_; clear n0_ n1_; (try clear hb); (try clear hb2); (try clear hk); (try clear hi)))
      go_meet
      case rel => exact ⟨_, (true), (by first | rfl | (simp; done) | (simp [*]; done)), H', ⟨by first | omega | exact Nat.le_refl _⟩, ⟨by (with_reducible repeat (first | refine blk_drewN ?_ _ | refine blk_drew ?_ | refine blk_alloc ?_ _)); exact BK121.out⟩, ⟨by repeat (first | (with_reducible first | exact HB.out | apply below_alloc | apply pw_below_drewN | apply below_drew1 | refine below_set ?_ GE121.out) | exact HB.out)⟩⟩
  case rest =>
    clear HC2
    try clear c1
    try clear p2
    try clear c5
    try clear c5b0
    try clear c5b1
    try clear hcz6_0
    try clear hcz6_1
    try clear hcz6_2
    try clear hcz6_3
    try clear hcz8_0
    try clear hcz8_1
    try clear hcz8_2
    try clear hcz8_3
    try clear hcz9_0
    try clear hcz9_1
    try clear hcz9_2
    try clear hcz9_3
    try clear hfz6_0
    try clear hfz6_1
    try clear hfz6_2
    try clear hfz6_3
    try clear hfz8_0
    try clear hfz8_1
    try clear hfz8_2
    try clear hfz8_3
    try clear hfz9_0
    try clear hfz9_1
    try clear hfz9_2
    try clear hfz9_3
    obtain ⟨kq, x14_1, rfl, HA, HJ1, BK121, HB⟩ := hcut
    cases kq with
    | zero => exact absurd HA.out (by simp [ledger_Ready.j0])
    | succ kj1 =>
      have H := HA.out
      clear HA
      simp only [ledger_Ready.j0] at H
      by_cases c11 : x14_1 = true
      · subst c11
        have H1 : (some ([] : List (S29))) = some r := by rw [if_pos rfl] at H; exact H
        clear H
        have H := H1
        clear H1
        obtain rfl := Option.some.inj H
        go_wp2
        go_ret
        exact ⟨_, by first | rfl | (simp [errW_none, errW_some] <;> rfl) | (simp [*, errW_none, errW_some] <;> rfl), by first | exact Kd.R_nil _ _ _ _ _ | exact Kd.N_nil _ _ _ _ _ | exact Kd.V_nil _ _ _ _ _ | exact Kd.Q_nil _ _ _ _ _ | exact Kd.S_nil _ _ _ _ _, by repeat (first | (with_reducible first | exact HB.out | apply below_alloc | apply pw_below_drewN | apply below_drew1 | refine below_set ?_ GE121.out) | exact HB.out)⟩
      · replace c11 := Bool.eq_false_iff.mpr c11
        subst c11
        have H1 : (ledger_Ready.l0 kj1 ([] : List (S29)) l0_1 (l0_1.length : Int) 0 a0_0 l0_1 l0_2 a0_3) = some r := by rw [if_neg (show ¬ (false = true) by decide)] at H; exact H
        clear H
        have H := H1
        clear H1
        have H' := Aside0.mk H
        clear H
        have hcz12_0 : wc.cell? ⟨gb121, 0, none⟩ = some (.int .i64 a0_0) := (blk_cell BK121.out 0).trans rfl
        have hcz12_1 : wc.cell? ⟨gb121, 1, none⟩ = some (.slice A0_1 l0_1.length c0_1) := (blk_cell BK121.out 1).trans rfl
        have hcz12_2 : wc.cell? ⟨gb121, 2, none⟩ = some (.slice A0_2 l0_2.length c0_2) := (blk_cell BK121.out 2).trans rfl
        have hcz12_3 : wc.cell? ⟨gb121, 3, none⟩ = some (.bool a0_3) := (blk_cell BK121.out 3).trans rfl
        have hfz12_0 := blk_frozen BK121.out 0
        have hfz12_1 := blk_frozen BK121.out 1
        have hfz12_2 := blk_frozen BK121.out 2
        have hfz12_3 := blk_frozen BK121.out 3
        go_wp2
        go_loopg [3, 18] kj1 (fun kq v3 v18 w' => ∃ (x3_2 : List (S29)) (x18_2 : Int), v18 = .int .i64 x18_2 ∧ Aside0 (ledger_Ready.l0 kq x3_2 l0_1 (l0_1.length : Int) x18_2 a0_0 l0_1 l0_2 a0_3 = some r) ∧ Aside0 (kq ≤ kj1) ∧ Aside0 (Kd.R k29 29 w' w.heap.size (fun _ => True) v3 x3_2) ∧ Aside0 (w'.heap[gb121]? = some (.cells #[.int .i64 a0_0, (.slice A0_1 l0_1.length c0_1), (.slice A0_2 l0_2.length c0_2), .bool a0_3] 24 (0, 0))) ∧ Aside0 (Below w.heap.size w w'))
        case atStart => exact ⟨(([] : List (S29))), (0), (by first | rfl | (simp; done) | (simp [*]; done)), H', ⟨Nat.le_refl _⟩, ⟨by first | exact Kd.R_nil _ _ _ _ _ | exact Kd.N_nil _ _ _ _ _ | exact Kd.V_nil _ _ _ _ _ | exact Kd.Q_nil _ _ _ _ _ | exact Kd.S_nil _ _ _ _ _⟩, ⟨by (with_reducible repeat (first | refine blk_drewN ?_ _ | refine blk_drew ?_ | refine blk_alloc ?_ _)); exact BK121.out⟩, ⟨by repeat (first | (with_reducible first | exact HB.out | apply below_alloc | apply pw_below_drewN | apply below_drew1 | refine below_set ?_ GE121.out) | exact HB.out)⟩⟩
        case round =>
          clear H'
          try clear c1
          try clear p2
          try clear c5
          try clear c5b0
          try clear c5b1
          try clear c11
          try clear hcz12_0
          try clear hcz12_1
          try clear hcz12_2
          try clear hcz12_3
          try clear hcz6_0
          try clear hcz6_1
          try clear hcz6_2
          try clear hcz6_3
          try clear hcz8_0
          try clear hcz8_1
          try clear hcz8_2
          try clear hcz8_3
          try clear hcz9_0
          try clear hcz9_1
          try clear hcz9_2
          try clear hcz9_3
          try clear hfz12_0
          try clear hfz12_1
          try clear hfz12_2
          try clear hfz12_3
          try clear hfz6_0
          try clear hfz6_1
          try clear hfz6_2
          try clear hfz6_3
          try clear hfz8_0
          try clear hfz8_1
          try clear hfz8_2
          try clear hfz8_3
          try clear hfz9_0
          try clear hfz9_1
          try clear hfz9_2
          try clear hfz9_3
          try clear p2
          obtain ⟨x3_2, x18_2, rfl, HA, HK2, HO_3, BK121, HB⟩ := hrel
          cases gk with
          | zero => exact absurd HA.out (by simp [ledger_Ready.l0])
          | succ k2 =>
            have H := HA.out
            clear HA
            simp only [ledger_Ready.l0] at H
            by_cases c13 : x18_2 < (l0_1.length : Int)
            · rw [if_pos c13] at H
              have c13b0 : decide (x18_2 < (l0_1.length : Int)) = true := decide_eq_true c13
              clear c13
              by_cases c14 : 0 ≤ x18_2
              · rw [if_pos c14] at H
                have c14b0 : decide (0 ≤ x18_2) = true := decide_eq_true c14
                clear c14
                by_cases c15 : x18_2 < (l0_1.length : Int)
                · rw [if_pos c15] at H
                  have c15b0 : decide (x18_2 < (l0_1.length : Int)) = true := decide_eq_true c15
                  clear c15
                  by_cases c16 : ((rd_T38 l0_1 x18_2).f0) = 0
                  · rw [if_pos c16] at H
                    have c16b0 : (((rd_T38 l0_1 x18_2).f0) == 0) = true := beq_iff_eq.mpr c16
                    have c16b1 : (((rd_T38 l0_1 x18_2).f0) != 0) = false := bne_eq_false_iff_eq.mpr c16
                    clear c16
                    by_cases c17 : x3_2.length < 8796093022208
                    · rw [if_pos c17] at H
                      have LMc17 := Aside0.mk c17
                      clear c17
                      obtain ⟨y125, hy125⟩ : ∃ y_ : List (S29), y_ = (x3_2 ++ [(⟨0, x18_2⟩ : S29)]) := ⟨_, rfl⟩
                      replace H : (ledger_Ready.l0 k2 y125 l0_1 (l0_1.length : Int) (wrap64 (x18_2 + 1)) a0_0 l0_1 l0_2 a0_3) = some r := by first | (rw [hy125]; with_reducible exact H) | (have H2_ := (Option.bind_some _ _).symm.trans H; rw [hy125]; with_reducible exact H2_) | (have H2_ := (Option.bind_some _ _).symm.trans H; with_reducible exact H2_) | with_reducible exact H | (rw [hy125]; exact H) | exact H
                      have Ny125 := Aside0.mk hy125
                      clear hy125
                      have H' := Aside0.mk H
                      clear H
                      have p123 : 0 ≤ (x18_2 : Int) := of_decide_eq_true (by first | (with_reducible assumption) | assumption)
                      have q123 : x18_2 < (l0_1.length : Int) := of_decide_eq_true (by first | (with_reducible assumption) | assumption)
                      obtain ⟨ad123, e123, hx123_0, hx123_1, hx123_2⟩ := at_T38 HR0_1.out x18_2 p123 q123
                      cases e123
                      replace hx123_0 := (HB.out.cell (World.block_lt_of_cell? w _ hx123_0)).trans hx123_0
                      replace hx123_1 := (HB.out.cell (World.block_lt_of_cell? w _ hx123_1)).trans hx123_1
                      replace hx123_2 := (HB.out.cell (World.block_lt_of_cell? w _ hx123_2)).trans hx123_2
                      replace p123 := eq_true p123
                      replace q123 := eq_true q123
                      go_wp2_with (first | ((with_reducible refine gate_dst (N := 5) rfl ?_); refine box_event ?hg (N := 5) ?hd (cs := #[.int .i64 0, .int .i64 0, .int .i64 0]) (t := 38) ?hr ?_; (case hd => rfl); (case hg => rfl); (case hr => first | (go_simp; done) | (go_simp; rfl)); intro gb124 hg w18 hbox hb; have n0_ := Aside0.mk (Kd.R_below (by (with_reducible repeat (first | apply Kd.R_alloc | apply Kd.R_drewN | apply Kd.R_drew)); exact HO_3.out) hb); have n1_ := Aside0.mk (blk_below (g := gb121) (o := .cells #[.int .i64 a0_0, .slice (some ad123) l0_1.length c0_1, .slice A0_2 l0_2.length c0_2, .bool a0_3] 24 (0, 0)) (by (with_reducible repeat (first | refine blk_drewN ?_ _ | refine blk_drew ?_ | refine blk_alloc ?_ _)); exact BK121.out) hb); have n2_ := Aside0.mk (below_step (by repeat (first | (with_reducible first | exact HB.out | apply below_alloc | apply pw_below_drewN | apply below_drew1 | refine below_set ?_ GE121.out) | exact HB.out)) hb); have n3_ := Aside0.mk (hbox); have n4_ := Aside0.mk ((by rw [hg]; exact (below_size (by repeat (first | (with_reducible first | exact HB.out | apply below_alloc | apply pw_below_drewN | apply below_drew1 | refine below_set ?_ GE121.out) | exact HB.out))) : w.heap.size ≤ gb124)); have n5_ := Aside0.mk ((by rw [hg]; exact (below_size (by repeat (first | (with_reducible first | exact HB.out | apply below_alloc | apply pw_below_drewN | apply below_drew1 | refine below_set ?_ GE121.out) | exact HB.out))) : w.heap.size ≤ gb124)); have n6_ := Aside0.mk ((by rw [hg]; exact Nat.ne_of_lt (blk_lt (g := gb121) (o := .cells #[.int .i64 a0_0, .slice (some ad123) l0_1.length c0_1, .slice A0_2 l0_2.length c0_2, .bool a0_3] 24 (0, 0)) (by (with_reducible repeat (first | refine blk_drewN ?_ _ | refine blk_drew ?_ | refine blk_alloc ?_ _)); exact BK121.out)) : gb121 ≠ gb124)); have n7_ := Aside0.mk ((by rw [hg]; exact Nat.ne_of_gt (blk_lt (g := gb121) (o := .cells #[.int .i64 a0_0, .slice (some ad123) l0_1.length c0_1, .slice A0_2 l0_2.length c0_2, .bool a0_3] 24 (0, 0)) (by (with_reducible repeat (first | refine blk_drewN ?_ _ | refine blk_drew ?_ | refine blk_alloc ?_ _)); exact BK121.out)) : gb124 ≠ gb121)); clear HO_3; clear BK121; clear HB; have HO_3 := n0_; have BK121 := n1_; have HB := n2_; have BK124 := n3_; have GW124 := n4_; have GE124 := n5_; have NB121_124 := n6_; have NB124_121 := n7_; clear n0_ n1_ n2_ n3_ n4_ n5_ n6_ n7_; clear hb hbox hg; have hnb19 := NB124_121.out; have hnc19 := NB121_124.out; have hcz20_0 : w18.cell? ⟨gb124, 0, none⟩ = some (.int .i64 0) := (blk_cell BK124.out 0).trans rfl; have hcz20_1 : w18.cell? ⟨gb124, 1, none⟩ = some (.int .i64 0) := (blk_cell BK124.out 1).trans rfl; have hcz20_2 : w18.cell? ⟨gb124, 2, none⟩ = some (.int .i64 0) := (blk_cell BK124.out 2).trans rfl; have hfz20_0 := blk_frozen BK124.out 0; have hfz20_1 := blk_frozen BK124.out 1; have hfz20_2 := blk_frozen BK124.out 2) | ((with_reducible refine gate_builtin (b := .append) (xs := #[.tmp 26, .tmp 29]) rfl ?_); at_builtin; refine Kd.R_append k29 (w0 := w) w.heap.size rfl (.tmp 26) (.tmp 29) 26 29 (.agg #[(.int .i64 0), (.int .i64 0)]) 16 rfl Tryd.underlying26 info29 rfl (by decide) (by omega) u3 x3_2 (⟨0, x18_2⟩ : S29) [.int .i64 0, .int .i64 x18_2] (fun _ => True) (fun _ => False) rfl (by first | (go_simp; done) | (go_simp; rfl)) ?aP (fun _ hk => hk.elim) ?aF ?aO ?aB ?aS ?aL ?_; (case aP => exact k29_mkM _ _ _ (⟨0, x18_2⟩ : S29)); (case aB => exact (by repeat (first | (with_reducible first | exact HB.out | apply below_alloc | apply pw_below_drewN | apply below_drew1 | refine below_set ?_ GE121.out | refine below_set ?_ GE124.out) | exact HB.out))); (case aF => exact (fun _ _ => trivial)); (case aO => exact (by (with_reducible repeat (first | apply Kd.R_alloc | apply Kd.R_drewN | apply Kd.R_drew)); exact Kd.R_mono (Kd.R_far (p := ⟨gb124, 2, none⟩) (Kd.R_far (p := ⟨gb124, 1, none⟩) (Kd.R_far (p := ⟨gb124, 0, none⟩) (Kd.R_types HO_3.out BK124.out (by decide)) (fun _ hk => hk.2) (.int .i64 ((rd_T38 l0_1 x18_2).f0))) (fun _ hk => hk.2) (.int .i64 ((rd_T38 l0_1 x18_2).f1))) (fun _ hk => hk.2) (.int .i64 ((rd_T38 l0_1 x18_2).f2))) (fun _ hk => trivial))); (case aS => exact (below_size (by repeat (first | (with_reducible first | exact HB.out | apply below_alloc | apply pw_below_drewN | apply below_drew1 | refine below_set ?_ GE121.out | refine below_set ?_ GE124.out) | exact HB.out)))); (case aL => have := LMc17.out; omega); intro v126 w21 ho hb hg hat; rw [← Ny125.out] at ho; have n0_ := Aside0.mk (blk_grown (g := gb121) (o := .cells #[.int .i64 a0_0, .slice (some ad123) l0_1.length c0_1, .slice A0_2 l0_2.length c0_2, .bool a0_3] 24 (0, 0)) (by (with_reducible repeat (first | refine blk_drewN ?_ _ | refine blk_drew ?_ | refine blk_alloc ?_ _)); refine blk_far ?_ NB121_124.out _; (with_reducible repeat (first | refine blk_drewN ?_ _ | refine blk_drew ?_ | refine blk_alloc ?_ _)); refine blk_far ?_ NB121_124.out _; (with_reducible repeat (first | refine blk_drewN ?_ _ | refine blk_drew ?_ | refine blk_alloc ?_ _)); refine blk_far ?_ NB121_124.out _; (with_reducible repeat (first | refine blk_drewN ?_ _ | refine blk_drew ?_ | refine blk_alloc ?_ _)); exact BK121.out) hg (Kd.R_ne HO_3.out BK121.out (by decide))); have n1_ := Aside0.mk (blk_grown (g := gb124) (o := .cells #[.int .i64 ((rd_T38 l0_1 x18_2).f0), .int .i64 ((rd_T38 l0_1 x18_2).f1), .int .i64 ((rd_T38 l0_1 x18_2).f2)] 38 (0, 0)) (by (with_reducible repeat (first | refine blk_drewN ?_ _ | refine blk_drew ?_ | refine blk_alloc ?_ _)); refine blk_put (cs := #[.int .i64 ((rd_T38 l0_1 x18_2).f0), .int .i64 ((rd_T38 l0_1 x18_2).f1), .int .i64 0]) ?_ 2 _ rfl; (with_reducible repeat (first | refine blk_drewN ?_ _ | refine blk_drew ?_ | refine blk_alloc ?_ _)); refine blk_put (cs := #[.int .i64 ((rd_T38 l0_1 x18_2).f0), .int .i64 0, .int .i64 0]) ?_ 1 _ rfl; (with_reducible repeat (first | refine blk_drewN ?_ _ | refine blk_drew ?_ | refine blk_alloc ?_ _)); refine blk_put (cs := #[.int .i64 0, .int .i64 0, .int .i64 0]) ?_ 0 _ rfl; (with_reducible repeat (first | refine blk_drewN ?_ _ | refine blk_drew ?_ | refine blk_alloc ?_ _)); exact BK124.out) hg (Kd.R_ne HO_3.out BK124.out (by decide))); have n2_ := Aside0.mk (hb); have n3_ := Aside0.mk (ho); clear BK121; clear BK124; clear HB; clear HO_3; have BK121 := n0_; have BK124 := n1_; have HB := n2_; have HO127 := n3_; clear n0_ n1_ n2_ n3_; clear ho hb hg hat))
                      go_roundg k2
                      case measure => have := HJ1.out; have := HK2.out; omega
                      case rel => exact ⟨(y125), (wrap64 (x18_2 + 1)), (by first | rfl | (simp; done) | (simp [*]; done)), H', ⟨by have := HJ1.out; have := HK2.out; omega⟩, ⟨by (with_reducible repeat (first | apply Kd.R_alloc | apply Kd.R_drewN | apply Kd.R_drew)); exact HO127.out⟩, ⟨by (with_reducible repeat (first | refine blk_drewN ?_ _ | refine blk_drew ?_ | refine blk_alloc ?_ _)); exact BK121.out⟩, ⟨by repeat (first | (with_reducible first | exact HB.out | apply below_alloc | apply pw_below_drewN | apply below_drew1 | refine below_set ?_ GE121.out | refine below_set ?_ GE124.out) | exact HB.out)⟩⟩
                    · rw [if_neg c17] at H
                      exact absurd H (by simp)
                  · rw [if_neg c16] at H
                    have c16b0 : (((rd_T38 l0_1 x18_2).f0) == 0) = false := beq_eq_false_iff_ne.mpr c16
                    have c16b1 : (((rd_T38 l0_1 x18_2).f0) != 0) = true := bne_iff_ne.mpr c16
                    have H' := Aside0.mk H
                    clear H
                    have p123 : 0 ≤ (x18_2 : Int) := of_decide_eq_true (by first | (with_reducible assumption) | assumption)
                    have q123 : x18_2 < (l0_1.length : Int) := of_decide_eq_true (by first | (with_reducible assumption) | assumption)
                    obtain ⟨ad123, e123, hx123_0, hx123_1, hx123_2⟩ := at_T38 HR0_1.out x18_2 p123 q123
                    cases e123
                    replace hx123_0 := (HB.out.cell (World.block_lt_of_cell? w _ hx123_0)).trans hx123_0
                    replace hx123_1 := (HB.out.cell (World.block_lt_of_cell? w _ hx123_1)).trans hx123_1
                    replace hx123_2 := (HB.out.cell (World.block_lt_of_cell? w _ hx123_2)).trans hx123_2
                    replace p123 := eq_true p123
                    replace q123 := eq_true q123
                    go_wp2_with (first | ((with_reducible refine gate_dst (N := 5) rfl ?_); refine box_event ?hg (N := 5) ?hd (cs := #[.int .i64 0, .int .i64 0, .int .i64 0]) (t := 38) ?hr ?_; (case hd => rfl); (case hg => rfl); (case hr => first | (go_simp; done) | (go_simp; rfl)); intro gb124 hg w22 hbox hb; have n0_ := Aside0.mk (Kd.R_below (by (with_reducible repeat (first | apply Kd.R_alloc | apply Kd.R_drewN | apply Kd.R_drew)); exact HO_3.out) hb); have n1_ := Aside0.mk (blk_below (g := gb121) (o := .cells #[.int .i64 a0_0, .slice (some ad123) l0_1.length c0_1, .slice A0_2 l0_2.length c0_2, .bool a0_3] 24 (0, 0)) (by (with_reducible repeat (first | refine blk_drewN ?_ _ | refine blk_drew ?_ | refine blk_alloc ?_ _)); exact BK121.out) hb); have n2_ := Aside0.mk (below_step (by repeat (first | (with_reducible first | exact HB.out | apply below_alloc | apply pw_below_drewN | apply below_drew1 | refine below_set ?_ GE121.out) | exact HB.out)) hb); have n3_ := Aside0.mk (hbox); have n4_ := Aside0.mk ((by rw [hg]; exact (below_size (by repeat (first | (with_reducible first | exact HB.out | apply below_alloc | apply pw_below_drewN | apply below_drew1 | refine below_set ?_ GE121.out) | exact HB.out))) : w.heap.size ≤ gb124)); have n5_ := Aside0.mk ((by rw [hg]; exact (below_size (by repeat (first | (with_reducible first | exact HB.out | apply below_alloc | apply pw_below_drewN | apply below_drew1 | refine below_set ?_ GE121.out) | exact HB.out))) : w.heap.size ≤ gb124)); have n6_ := Aside0.mk ((by rw [hg]; exact Nat.ne_of_lt (blk_lt (g := gb121) (o := .cells #[.int .i64 a0_0, .slice (some ad123) l0_1.length c0_1, .slice A0_2 l0_2.length c0_2, .bool a0_3] 24 (0, 0)) (by (with_reducible repeat (first | refine blk_drewN ?_ _ | refine blk_drew ?_ | refine blk_alloc ?_ _)); exact BK121.out)) : gb121 ≠ gb124)); have n7_ := Aside0.mk ((by rw [hg]; exact Nat.ne_of_gt (blk_lt (g := gb121) (o := .cells #[.int .i64 a0_0, .slice (some ad123) l0_1.length c0_1, .slice A0_2 l0_2.length c0_2, .bool a0_3] 24 (0, 0)) (by (with_reducible repeat (first | refine blk_drewN ?_ _ | refine blk_drew ?_ | refine blk_alloc ?_ _)); exact BK121.out)) : gb124 ≠ gb121)); clear HO_3; clear BK121; clear HB; have HO_3 := n0_; have BK121 := n1_; have HB := n2_; have BK124 := n3_; have GW124 := n4_; have GE124 := n5_; have NB121_124 := n6_; have NB124_121 := n7_; clear n0_ n1_ n2_ n3_ n4_ n5_ n6_ n7_; clear hb hbox hg; have hnb23 := NB124_121.out; have hnc23 := NB121_124.out; have hcz24_0 : w22.cell? ⟨gb124, 0, none⟩ = some (.int .i64 0) := (blk_cell BK124.out 0).trans rfl; have hcz24_1 : w22.cell? ⟨gb124, 1, none⟩ = some (.int .i64 0) := (blk_cell BK124.out 1).trans rfl; have hcz24_2 : w22.cell? ⟨gb124, 2, none⟩ = some (.int .i64 0) := (blk_cell BK124.out 2).trans rfl; have hfz24_0 := blk_frozen BK124.out 0; have hfz24_1 := blk_frozen BK124.out 1; have hfz24_2 := blk_frozen BK124.out 2))
                    go_roundg k2
                    case measure => have := HJ1.out; have := HK2.out; omega
                    case rel => exact ⟨(x3_2), (wrap64 (x18_2 + 1)), (by first | rfl | (simp; done) | (simp [*]; done)), H', ⟨by have := HJ1.out; have := HK2.out; omega⟩, ⟨by (with_reducible repeat (first | apply Kd.R_alloc | apply Kd.R_drewN | apply Kd.R_drew)); exact Kd.R_mono (Kd.R_far (p := ⟨gb124, 2, none⟩) (Kd.R_far (p := ⟨gb124, 1, none⟩) (Kd.R_far (p := ⟨gb124, 0, none⟩) (Kd.R_types HO_3.out BK124.out (by decide)) (fun _ hk => hk.2) (.int .i64 ((rd_T38 l0_1 x18_2).f0))) (fun _ hk => hk.2) (.int .i64 ((rd_T38 l0_1 x18_2).f1))) (fun _ hk => hk.2) (.int .i64 ((rd_T38 l0_1 x18_2).f2))) (fun _ hk => trivial)⟩, ⟨by (with_reducible repeat (first | refine blk_drewN ?_ _ | refine blk_drew ?_ | refine blk_alloc ?_ _)); refine blk_far ?_ NB121_124.out _; (with_reducible repeat (first | refine blk_drewN ?_ _ | refine blk_drew ?_ | refine blk_alloc ?_ _)); refine blk_far ?_ NB121_124.out _; (with_reducible repeat (first | refine blk_drewN ?_ _ | refine blk_drew ?_ | refine blk_alloc ?_ _)); refine blk_far ?_ NB121_124.out _; (with_reducible repeat (first | refine blk_drewN ?_ _ | refine blk_drew ?_ | refine blk_alloc ?_ _)); exact BK121.out⟩, ⟨by repeat (first | (with_reducible first | exact HB.out | apply below_alloc | apply pw_below_drewN | apply below_drew1 | refine below_set ?_ GE121.out | refine below_set ?_ GE124.out) | exact HB.out)⟩⟩
                · rw [if_neg c15] at H
                  exact absurd H (by simp)
              · rw [if_neg c14] at H
                exact absurd H (by simp)
            · rw [if_neg c13] at H
              have c13b0 : decide (x18_2 < (l0_1.length : Int)) = false := decide_eq_false c13
              clear c13
              replace H := Option.bind_eq_some_iff.mp H
              obtain ⟨t128, A250, H⟩ := H
              replace H : (if t128 = true then (ledger_Ready.l1 k2 x3_2 l0_2 (l0_2.length : Int) 0) else (some x3_2)) = some r := H
              have A25 := Aside0.mk A250
              clear A250
              by_cases c26 : t128 = true
              · subst c26
                have H1 : (ledger_Ready.l1 k2 x3_2 l0_2 (l0_2.length : Int) 0) = some r := by rw [if_pos rfl] at H; exact H
                clear H
                have H := H1
                clear H1
                have H' := Aside0.mk H
                clear H
                have hcz27_0 : wr.cell? ⟨gb121, 0, none⟩ = some (.int .i64 a0_0) := (blk_cell BK121.out 0).trans rfl
                have hcz27_1 : wr.cell? ⟨gb121, 1, none⟩ = some (.slice A0_1 l0_1.length c0_1) := (blk_cell BK121.out 1).trans rfl
                have hcz27_2 : wr.cell? ⟨gb121, 2, none⟩ = some (.slice A0_2 l0_2.length c0_2) := (blk_cell BK121.out 2).trans rfl
                have hcz27_3 : wr.cell? ⟨gb121, 3, none⟩ = some (.bool a0_3) := (blk_cell BK121.out 3).trans rfl
                have hfz27_0 := blk_frozen BK121.out 0
                have hfz27_1 := blk_frozen BK121.out 1
                have hfz27_2 := blk_frozen BK121.out 2
                have hfz27_3 := blk_frozen BK121.out 3
                go_wp2_with (first | ((with_reducible refine gate_callee (f := 40) rfl ?_); refine goesL_ (some 34) rfl rfl Tryd.func40 (by kernel_rfl) rfl #[.slice A0_1 l0_1.length c0_1] rfl (by (try simp only [List.map_toArray, List.map_cons, List.map_nil]); first | done | rfl | (simp only [List.length_drop, List.length_take]; rfl)) ?_; (with_reducible refine (ledger_all.calls k2 _ _ l0_1 true _ ?side1 ?side2 A25.out).mono ?_); (case side1 => repeat (first | exact (Kd.C_below HR0_1.out HB.out) | (with_reducible refine Kd.C_alloc ?_ _) | (with_reducible refine Kd.C_drewN ?_ _) | (with_reducible refine Kd.C_drew ?_))); (case side2 => exact HC0_1.out); rintro e w28 ⟨rfl, hb⟩; refine ⟨_, rfl, ?_⟩; have n0_ := Aside0.mk (Kd.R_below (by (with_reducible repeat (first | apply Kd.R_alloc | apply Kd.R_drewN | apply Kd.R_drew)); exact HO_3.out) hb); have n1_ := Aside0.mk (blk_below (g := gb121) (o := .cells #[.int .i64 a0_0, .slice A0_1 l0_1.length c0_1, .slice A0_2 l0_2.length c0_2, .bool a0_3] 24 (0, 0)) (by (with_reducible repeat (first | refine blk_drewN ?_ _ | refine blk_drew ?_ | refine blk_alloc ?_ _)); exact BK121.out) hb); have n2_ := Aside0.mk (below_step (by repeat (first | (with_reducible first | exact HB.out | apply below_alloc | apply pw_below_drewN | apply below_drew1 | refine below_set ?_ GE121.out) | exact HB.out)) hb); clear HO_3; clear BK121; clear HB; have HO_3 := n0_; have BK121 := n1_; have HB := n2_; clear n0_ n1_ n2_; (try clear hb); (try clear hb2); (try clear hk); (try clear hi); have hcz29_0 : w28.cell? ⟨gb121, 0, none⟩ = some (.int .i64 a0_0) := (blk_cell BK121.out 0).trans rfl; have hcz29_1 : w28.cell? ⟨gb121, 1, none⟩ = some (.slice A0_1 l0_1.length c0_1) := (blk_cell BK121.out 1).trans rfl; have hcz29_2 : w28.cell? ⟨gb121, 2, none⟩ = some (.slice A0_2 l0_2.length c0_2) := (blk_cell BK121.out 2).trans rfl; have hcz29_3 : w28.cell? ⟨gb121, 3, none⟩ = some (.bool a0_3) := (blk_cell BK121.out 3).trans rfl; have hfz29_0 := blk_frozen BK121.out 0; have hfz29_1 := blk_frozen BK121.out 1; have hfz29_2 := blk_frozen BK121.out 2; have hfz29_3 := blk_frozen BK121.out 3))
                go_loopg [3, 40] k2 (fun kq v3 v40 w' => ∃ (x3_3 : List (S29)) (x40_3 : Int), v40 = .int .i64 x40_3 ∧ Aside0 (ledger_Ready.l1 kq x3_3 l0_2 (l0_2.length : Int) x40_3 = some r) ∧ Aside0 (kq ≤ k2) ∧ Aside0 (Kd.R k29 29 w' w.heap.size (fun _ => True) v3 x3_3) ∧ Aside0 (w'.heap[gb121]? = some (.cells #[.int .i64 a0_0, (.slice A0_1 l0_1.length c0_1), (.slice A0_2 l0_2.length c0_2), .bool a0_3] 24 (0, 0))) ∧ Aside0 (Below w.heap.size w w'))
                case atStart => exact ⟨(x3_2), (0), (by first | rfl | (simp; done) | (simp [*]; done)), H', ⟨Nat.le_refl _⟩, ⟨by (with_reducible repeat (first | apply Kd.R_alloc | apply Kd.R_drewN | apply Kd.R_drew)); exact HO_3.out⟩, ⟨by (with_reducible repeat (first | refine blk_drewN ?_ _ | refine blk_drew ?_ | refine blk_alloc ?_ _)); exact BK121.out⟩, ⟨by repeat (first | (with_reducible first | exact HB.out | apply below_alloc | apply pw_below_drewN | apply below_drew1 | refine below_set ?_ GE121.out) | exact HB.out)⟩⟩
                case round =>
                  clear H'
                  try clear c1
                  try clear p1
                  try clear q1
                  try clear hx1
                  try clear c2
                  try clear p2
                  try clear c4
                  try clear c5
                  try clear c5b0
                  try clear c5b1
                  try clear p6
                  try clear c11
                  try clear p12
                  try clear q12
                  try clear hx12
                  try clear c13
                  try clear c13b0
                  try clear c14
                  try clear c14b0
                  try clear c15
                  try clear c15b0
                  try clear c16
                  try clear c16b0
                  try clear c16b1
                  try clear c17
                  try clear c19
                  try clear c23
                  try clear c26
                  try clear hcz12_0
                  try clear hcz12_1
                  try clear hcz12_2
                  try clear hcz12_3
                  try clear hcz20_0
                  try clear hcz20_1
                  try clear hcz20_2
                  try clear hcz24_0
                  try clear hcz24_1
                  try clear hcz24_2
                  try clear hcz27_0
                  try clear hcz27_1
                  try clear hcz27_2
                  try clear hcz27_3
                  try clear hcz29_0
                  try clear hcz29_1
                  try clear hcz29_2
                  try clear hcz29_3
                  try clear hcz6_0
                  try clear hcz6_1
                  try clear hcz6_2
                  try clear hcz6_3
                  try clear hcz8_0
                  try clear hcz8_1
                  try clear hcz8_2
                  try clear hcz8_3
                  try clear hcz9_0
                  try clear hcz9_1
                  try clear hcz9_2
                  try clear hcz9_3
                  try clear hfz12_0
                  try clear hfz12_1
                  try clear hfz12_2
                  try clear hfz12_3
                  try clear hfz20_0
                  try clear hfz20_1
                  try clear hfz20_2
                  try clear hfz24_0
                  try clear hfz24_1
                  try clear hfz24_2
                  try clear hfz27_0
                  try clear hfz27_1
                  try clear hfz27_2
                  try clear hfz27_3
                  try clear hfz29_0
                  try clear hfz29_1
                  try clear hfz29_2
                  try clear hfz29_3
                  try clear hfz6_0
                  try clear hfz6_1
                  try clear hfz6_2
                  try clear hfz6_3
                  try clear hfz8_0
                  try clear hfz8_1
                  try clear hfz8_2
                  try clear hfz8_3
                  try clear hfz9_0
                  try clear hfz9_1
                  try clear hfz9_2
                  try clear hfz9_3
                  try clear hx123_0
                  try clear hx123_1
                  try clear hx123_2
                  try clear p123
                  try clear p2
                  try clear q123
                  obtain ⟨x3_3, x40_3, rfl, HA, HK3, HO_3, BK121, HB⟩ := hrel
                  cases gk with
                  | zero => exact absurd HA.out (by simp [ledger_Ready.l1])
                  | succ k3 =>
                    have H := HA.out
                    clear HA
                    simp only [ledger_Ready.l1] at H
                    by_cases c30 : x40_3 < (l0_2.length : Int)
                    · rw [if_pos c30] at H
                      have c30b0 : decide (x40_3 < (l0_2.length : Int)) = true := decide_eq_true c30
                      clear c30
                      by_cases c31 : 0 ≤ x40_3
                      · rw [if_pos c31] at H
                        have c31b0 : decide (0 ≤ x40_3) = true := decide_eq_true c31
                        clear c31
                        by_cases c32 : x40_3 < (l0_2.length : Int)
                        · rw [if_pos c32] at H
                          have c32b0 : decide (x40_3 < (l0_2.length : Int)) = true := decide_eq_true c32
                          clear c32
                          by_cases c33 : ((rd_T38 l0_2 x40_3).f0) = 0
                          · rw [if_pos c33] at H
                            have c33b0 : (((rd_T38 l0_2 x40_3).f0) == 0) = true := beq_iff_eq.mpr c33
                            have c33b1 : (((rd_T38 l0_2 x40_3).f0) != 0) = false := bne_eq_false_iff_eq.mpr c33
                            clear c33
                            by_cases c34 : x3_3.length < 8796093022208
                            · rw [if_pos c34] at H
                              have LMc34 := Aside0.mk c34
                              clear c34
                              obtain ⟨y131, hy131⟩ : ∃ y_ : List (S29), y_ = (x3_3 ++ [(⟨1, x40_3⟩ : S29)]) := ⟨_, rfl⟩
                              replace H : (ledger_Ready.l1 k3 y131 l0_2 (l0_2.length : Int) (wrap64 (x40_3 + 1))) = some r := by first | (rw [hy131]; with_reducible exact H) | (have H2_ := (Option.bind_some _ _).symm.trans H; rw [hy131]; with_reducible exact H2_) | (have H2_ := (Option.bind_some _ _).symm.trans H; with_reducible exact H2_) | with_reducible exact H | (rw [hy131]; exact H) | exact H
                              have Ny131 := Aside0.mk hy131
                              clear hy131
                              have H' := Aside0.mk H
                              clear H
                              have p129 : 0 ≤ (x40_3 : Int) := of_decide_eq_true (by first | (with_reducible assumption) | assumption)
                              have q129 : x40_3 < (l0_2.length : Int) := of_decide_eq_true (by first | (with_reducible assumption) | assumption)
                              obtain ⟨ad129, e129, hx129_0, hx129_1, hx129_2⟩ := at_T38 HR0_2.out x40_3 p129 q129
                              cases e129
                              replace hx129_0 := (HB.out.cell (World.block_lt_of_cell? w _ hx129_0)).trans hx129_0
                              replace hx129_1 := (HB.out.cell (World.block_lt_of_cell? w _ hx129_1)).trans hx129_1
                              replace hx129_2 := (HB.out.cell (World.block_lt_of_cell? w _ hx129_2)).trans hx129_2
                              replace p129 := eq_true p129
                              replace q129 := eq_true q129
                              go_wp2_with (first | ((with_reducible refine gate_dst (N := 7) rfl ?_); refine box_event ?hg (N := 7) ?hd (cs := #[.int .i64 0, .int .i64 0, .int .i64 0]) (t := 38) ?hr ?_; (case hd => rfl); (case hg => rfl); (case hr => first | (go_simp; done) | (go_simp; rfl)); intro gb130 hg w35 hbox hb; have n0_ := Aside0.mk (Kd.R_below (by (with_reducible repeat (first | apply Kd.R_alloc | apply Kd.R_drewN | apply Kd.R_drew)); exact HO_3.out) hb); have n1_ := Aside0.mk (blk_below (g := gb121) (o := .cells #[.int .i64 a0_0, .slice A0_1 l0_1.length c0_1, .slice (some ad129) l0_2.length c0_2, .bool a0_3] 24 (0, 0)) (by (with_reducible repeat (first | refine blk_drewN ?_ _ | refine blk_drew ?_ | refine blk_alloc ?_ _)); exact BK121.out) hb); have n2_ := Aside0.mk (below_step (by repeat (first | (with_reducible first | exact HB.out | apply below_alloc | apply pw_below_drewN | apply below_drew1 | refine below_set ?_ GE121.out) | exact HB.out)) hb); have n3_ := Aside0.mk (hbox); have n4_ := Aside0.mk ((by rw [hg]; exact (below_size (by repeat (first | (with_reducible first | exact HB.out | apply below_alloc | apply pw_below_drewN | apply below_drew1 | refine below_set ?_ GE121.out) | exact HB.out))) : w.heap.size ≤ gb130)); have n5_ := Aside0.mk ((by rw [hg]; exact (below_size (by repeat (first | (with_reducible first | exact HB.out | apply below_alloc | apply pw_below_drewN | apply below_drew1 | refine below_set ?_ GE121.out) | exact HB.out))) : w.heap.size ≤ gb130)); have n6_ := Aside0.mk ((by rw [hg]; exact Nat.ne_of_lt (blk_lt (g := gb121) (o := .cells #[.int .i64 a0_0, .slice A0_1 l0_1.length c0_1, .slice (some ad129) l0_2.length c0_2, .bool a0_3] 24 (0, 0)) (by (with_reducible repeat (first | refine blk_drewN ?_ _ | refine blk_drew ?_ | refine blk_alloc ?_ _)); exact BK121.out)) : gb121 ≠ gb130)); have n7_ := Aside0.mk ((by rw [hg]; exact Nat.ne_of_gt (blk_lt (g := gb121) (o := .cells #[.int .i64 a0_0, .slice A0_1 l0_1.length c0_1, .slice (some ad129) l0_2.length c0_2, .bool a0_3] 24 (0, 0)) (by (with_reducible repeat (first | refine blk_drewN ?_ _ | refine blk_drew ?_ | refine blk_alloc ?_ _)); exact BK121.out)) : gb130 ≠ gb121)); clear HO_3; clear BK121; clear HB; have HO_3 := n0_; have BK121 := n1_; have HB := n2_; have BK130 := n3_; have GW130 := n4_; have GE130 := n5_; have NB121_130 := n6_; have NB130_121 := n7_; clear n0_ n1_ n2_ n3_ n4_ n5_ n6_ n7_; clear hb hbox hg; have hnb36 := NB130_121.out; have hnc36 := NB121_130.out; have hcz37_0 : w35.cell? ⟨gb130, 0, none⟩ = some (.int .i64 0) := (blk_cell BK130.out 0).trans rfl; have hcz37_1 : w35.cell? ⟨gb130, 1, none⟩ = some (.int .i64 0) := (blk_cell BK130.out 1).trans rfl; have hcz37_2 : w35.cell? ⟨gb130, 2, none⟩ = some (.int .i64 0) := (blk_cell BK130.out 2).trans rfl; have hfz37_0 := blk_frozen BK130.out 0; have hfz37_1 := blk_frozen BK130.out 1; have hfz37_2 := blk_frozen BK130.out 2) | ((with_reducible refine gate_builtin (b := .append) (xs := #[.tmp 53, .tmp 56]) rfl ?_); at_builtin; refine Kd.R_append k29 (w0 := w) w.heap.size rfl (.tmp 53) (.tmp 56) 26 29 (.agg #[(.int .i64 0), (.int .i64 0)]) 16 rfl Tryd.underlying26 info29 rfl (by decide) (by omega) u3 x3_3 (⟨1, x40_3⟩ : S29) [.int .i64 1, .int .i64 x40_3] (fun _ => True) (fun _ => False) rfl (by first | (go_simp; done) | (go_simp; rfl)) ?aP (fun _ hk => hk.elim) ?aF ?aO ?aB ?aS ?aL ?_; (case aP => exact k29_mkM _ _ _ (⟨1, x40_3⟩ : S29)); (case aB => exact (by repeat (first | (with_reducible first | exact HB.out | apply below_alloc | apply pw_below_drewN | apply below_drew1 | refine below_set ?_ GE121.out | refine below_set ?_ GE130.out) | exact HB.out))); (case aF => exact (fun _ _ => trivial)); (case aO => exact (by (with_reducible repeat (first | apply Kd.R_alloc | apply Kd.R_drewN | apply Kd.R_drew)); exact Kd.R_mono (Kd.R_far (p := ⟨gb130, 2, none⟩) (Kd.R_far (p := ⟨gb130, 1, none⟩) (Kd.R_far (p := ⟨gb130, 0, none⟩) (Kd.R_types HO_3.out BK130.out (by decide)) (fun _ hk => hk.2) (.int .i64 ((rd_T38 l0_2 x40_3).f0))) (fun _ hk => hk.2) (.int .i64 ((rd_T38 l0_2 x40_3).f1))) (fun _ hk => hk.2) (.int .i64 ((rd_T38 l0_2 x40_3).f2))) (fun _ hk => trivial))); (case aS => exact (below_size (by repeat (first | (with_reducible first | exact HB.out | apply below_alloc | apply pw_below_drewN | apply below_drew1 | refine below_set ?_ GE121.out | refine below_set ?_ GE130.out) | exact HB.out)))); (case aL => have := LMc34.out; omega); intro v132 w38 ho hb hg hat; rw [← Ny131.out] at ho; have n0_ := Aside0.mk (blk_grown (g := gb121) (o := .cells #[.int .i64 a0_0, .slice A0_1 l0_1.length c0_1, .slice (some ad129) l0_2.length c0_2, .bool a0_3] 24 (0, 0)) (by (with_reducible repeat (first | refine blk_drewN ?_ _ | refine blk_drew ?_ | refine blk_alloc ?_ _)); refine blk_far ?_ NB121_130.out _; (with_reducible repeat (first | refine blk_drewN ?_ _ | refine blk_drew ?_ | refine blk_alloc ?_ _)); refine blk_far ?_ NB121_130.out _; (with_reducible repeat (first | refine blk_drewN ?_ _ | refine blk_drew ?_ | refine blk_alloc ?_ _)); refine blk_far ?_ NB121_130.out _; (with_reducible repeat (first | refine blk_drewN ?_ _ | refine blk_drew ?_ | refine blk_alloc ?_ _)); exact BK121.out) hg (Kd.R_ne HO_3.out BK121.out (by decide))); have n1_ := Aside0.mk (blk_grown (g := gb130) (o := .cells #[.int .i64 ((rd_T38 l0_2 x40_3).f0), .int .i64 ((rd_T38 l0_2 x40_3).f1), .int .i64 ((rd_T38 l0_2 x40_3).f2)] 38 (0, 0)) (by (with_reducible repeat (first | refine blk_drewN ?_ _ | refine blk_drew ?_ | refine blk_alloc ?_ _)); refine blk_put (cs := #[.int .i64 ((rd_T38 l0_2 x40_3).f0), .int .i64 ((rd_T38 l0_2 x40_3).f1), .int .i64 0]) ?_ 2 _ rfl; (with_reducible repeat (first | refine blk_drewN ?_ _ | refine blk_drew ?_ | refine blk_alloc ?_ _)); refine blk_put (cs := #[.int .i64 ((rd_T38 l0_2 x40_3).f0), .int .i64 0, .int .i64 0]) ?_ 1 _ rfl; (with_reducible repeat (first | refine blk_drewN ?_ _ | refine blk_drew ?_ | refine blk_alloc ?_ _)); refine blk_put (cs := #[.int .i64 0, .int .i64 0, .int .i64 0]) ?_ 0 _ rfl; (with_reducible repeat (first | refine blk_drewN ?_ _ | refine blk_drew ?_ | refine blk_alloc ?_ _)); exact BK130.out) hg (Kd.R_ne HO_3.out BK130.out (by decide))); have n2_ := Aside0.mk (hb); have n3_ := Aside0.mk (ho); clear BK121; clear BK130; clear HB; clear HO_3; have BK121 := n0_; have BK130 := n1_; have HB := n2_; have HO133 := n3_; clear n0_ n1_ n2_ n3_; clear ho hb hg hat))
                              go_roundg k3
                              case measure => have := HJ1.out; have := HK2.out; have := HK3.out; omega
                              case rel => exact ⟨(y131), (wrap64 (x40_3 + 1)), (by first | rfl | (simp; done) | (simp [*]; done)), H', ⟨by have := HJ1.out; have := HK2.out; have := HK3.out; omega⟩, ⟨by (with_reducible repeat (first | apply Kd.R_alloc | apply Kd.R_drewN | apply Kd.R_drew)); exact HO133.out⟩, ⟨by (with_reducible repeat (first | refine blk_drewN ?_ _ | refine blk_drew ?_ | refine blk_alloc ?_ _)); exact BK121.out⟩, ⟨by repeat (first | (with_reducible first | exact HB.out | apply below_alloc | apply pw_below_drewN | apply below_drew1 | refine below_set ?_ GE121.out | refine below_set ?_ GE130.out) | exact HB.out)⟩⟩
                            · rw [if_neg c34] at H
                              exact absurd H (by simp)
                          · rw [if_neg c33] at H
                            have c33b0 : (((rd_T38 l0_2 x40_3).f0) == 0) = false := beq_eq_false_iff_ne.mpr c33
                            have c33b1 : (((rd_T38 l0_2 x40_3).f0) != 0) = true := bne_iff_ne.mpr c33
                            by_cases c39 : ((rd_T38 l0_2 x40_3).f0) = 2
                            · rw [if_pos c39] at H
                              have c39b0 : (((rd_T38 l0_2 x40_3).f0) == 2) = true := beq_iff_eq.mpr c39
                              have c39b1 : (((rd_T38 l0_2 x40_3).f0) != 2) = false := bne_eq_false_iff_eq.mpr c39
                              clear c39
                              by_cases c40 : x3_3.length < 8796093022208
                              · rw [if_pos c40] at H
                                have LMc40 := Aside0.mk c40
                                clear c40
                                obtain ⟨y134, hy134⟩ : ∃ y_ : List (S29), y_ = (x3_3 ++ [(⟨1, x40_3⟩ : S29)]) := ⟨_, rfl⟩
                                replace H : (ledger_Ready.l1 k3 y134 l0_2 (l0_2.length : Int) (wrap64 (x40_3 + 1))) = some r := by first | (rw [hy134]; with_reducible exact H) | (have H2_ := (Option.bind_some _ _).symm.trans H; rw [hy134]; with_reducible exact H2_) | (have H2_ := (Option.bind_some _ _).symm.trans H; with_reducible exact H2_) | with_reducible exact H | (rw [hy134]; exact H) | exact H
                                have Ny134 := Aside0.mk hy134
                                clear hy134
                                have H' := Aside0.mk H
                                clear H
                                have p129 : 0 ≤ (x40_3 : Int) := of_decide_eq_true (by first | (with_reducible assumption) | assumption)
                                have q129 : x40_3 < (l0_2.length : Int) := of_decide_eq_true (by first | (with_reducible assumption) | assumption)
                                obtain ⟨ad129, e129, hx129_0, hx129_1, hx129_2⟩ := at_T38 HR0_2.out x40_3 p129 q129
                                cases e129
                                replace hx129_0 := (HB.out.cell (World.block_lt_of_cell? w _ hx129_0)).trans hx129_0
                                replace hx129_1 := (HB.out.cell (World.block_lt_of_cell? w _ hx129_1)).trans hx129_1
                                replace hx129_2 := (HB.out.cell (World.block_lt_of_cell? w _ hx129_2)).trans hx129_2
                                replace p129 := eq_true p129
                                replace q129 := eq_true q129
                                go_wp2_with (first | ((with_reducible refine gate_dst (N := 7) rfl ?_); refine box_event ?hg (N := 7) ?hd (cs := #[.int .i64 0, .int .i64 0, .int .i64 0]) (t := 38) ?hr ?_; (case hd => rfl); (case hg => rfl); (case hr => first | (go_simp; done) | (go_simp; rfl)); intro gb130 hg w41 hbox hb; have n0_ := Aside0.mk (Kd.R_below (by (with_reducible repeat (first | apply Kd.R_alloc | apply Kd.R_drewN | apply Kd.R_drew)); exact HO_3.out) hb); have n1_ := Aside0.mk (blk_below (g := gb121) (o := .cells #[.int .i64 a0_0, .slice A0_1 l0_1.length c0_1, .slice (some ad129) l0_2.length c0_2, .bool a0_3] 24 (0, 0)) (by (with_reducible repeat (first | refine blk_drewN ?_ _ | refine blk_drew ?_ | refine blk_alloc ?_ _)); exact BK121.out) hb); have n2_ := Aside0.mk (below_step (by repeat (first | (with_reducible first | exact HB.out | apply below_alloc | apply pw_below_drewN | apply below_drew1 | refine below_set ?_ GE121.out) | exact HB.out)) hb); have n3_ := Aside0.mk (hbox); have n4_ := Aside0.mk ((by rw [hg]; exact (below_size (by repeat (first | (with_reducible first | exact HB.out | apply below_alloc | apply pw_below_drewN | apply below_drew1 | refine below_set ?_ GE121.out) | exact HB.out))) : w.heap.size ≤ gb130)); have n5_ := Aside0.mk ((by rw [hg]; exact (below_size (by repeat (first | (with_reducible first | exact HB.out | apply below_alloc | apply pw_below_drewN | apply below_drew1 | refine below_set ?_ GE121.out) | exact HB.out))) : w.heap.size ≤ gb130)); have n6_ := Aside0.mk ((by rw [hg]; exact Nat.ne_of_lt (blk_lt (g := gb121) (o := .cells #[.int .i64 a0_0, .slice A0_1 l0_1.length c0_1, .slice (some ad129) l0_2.length c0_2, .bool a0_3] 24 (0, 0)) (by (with_reducible repeat (first | refine blk_drewN ?_ _ | refine blk_drew ?_ | refine blk_alloc ?_ _)); exact BK121.out)) : gb121 ≠ gb130)); have n7_ := Aside0.mk ((by rw [hg]; exact Nat.ne_of_gt (blk_lt (g := gb121) (o := .cells #[.int .i64 a0_0, .slice A0_1 l0_1.length c0_1, .slice (some ad129) l0_2.length c0_2, .bool a0_3] 24 (0, 0)) (by (with_reducible repeat (first | refine blk_drewN ?_ _ | refine blk_drew ?_ | refine blk_alloc ?_ _)); exact BK121.out)) : gb130 ≠ gb121)); clear HO_3; clear BK121; clear HB; have HO_3 := n0_; have BK121 := n1_; have HB := n2_; have BK130 := n3_; have GW130 := n4_; have GE130 := n5_; have NB121_130 := n6_; have NB130_121 := n7_; clear n0_ n1_ n2_ n3_ n4_ n5_ n6_ n7_; clear hb hbox hg; have hnb42 := NB130_121.out; have hnc42 := NB121_130.out; have hcz43_0 : w41.cell? ⟨gb130, 0, none⟩ = some (.int .i64 0) := (blk_cell BK130.out 0).trans rfl; have hcz43_1 : w41.cell? ⟨gb130, 1, none⟩ = some (.int .i64 0) := (blk_cell BK130.out 1).trans rfl; have hcz43_2 : w41.cell? ⟨gb130, 2, none⟩ = some (.int .i64 0) := (blk_cell BK130.out 2).trans rfl; have hfz43_0 := blk_frozen BK130.out 0; have hfz43_1 := blk_frozen BK130.out 1; have hfz43_2 := blk_frozen BK130.out 2) | ((with_reducible refine gate_builtin (b := .append) (xs := #[.tmp 53, .tmp 56]) rfl ?_); at_builtin; refine Kd.R_append k29 (w0 := w) w.heap.size rfl (.tmp 53) (.tmp 56) 26 29 (.agg #[(.int .i64 0), (.int .i64 0)]) 16 rfl Tryd.underlying26 info29 rfl (by decide) (by omega) u3 x3_3 (⟨1, x40_3⟩ : S29) [.int .i64 1, .int .i64 x40_3] (fun _ => True) (fun _ => False) rfl (by first | (go_simp; done) | (go_simp; rfl)) ?aP (fun _ hk => hk.elim) ?aF ?aO ?aB ?aS ?aL ?_; (case aP => exact k29_mkM _ _ _ (⟨1, x40_3⟩ : S29)); (case aB => exact (by repeat (first | (with_reducible first | exact HB.out | apply below_alloc | apply pw_below_drewN | apply below_drew1 | refine below_set ?_ GE121.out | refine below_set ?_ GE130.out) | exact HB.out))); (case aF => exact (fun _ _ => trivial)); (case aO => exact (by (with_reducible repeat (first | apply Kd.R_alloc | apply Kd.R_drewN | apply Kd.R_drew)); exact Kd.R_mono (Kd.R_far (p := ⟨gb130, 2, none⟩) (Kd.R_far (p := ⟨gb130, 1, none⟩) (Kd.R_far (p := ⟨gb130, 0, none⟩) (Kd.R_types HO_3.out BK130.out (by decide)) (fun _ hk => hk.2) (.int .i64 ((rd_T38 l0_2 x40_3).f0))) (fun _ hk => hk.2) (.int .i64 ((rd_T38 l0_2 x40_3).f1))) (fun _ hk => hk.2) (.int .i64 ((rd_T38 l0_2 x40_3).f2))) (fun _ hk => trivial))); (case aS => exact (below_size (by repeat (first | (with_reducible first | exact HB.out | apply below_alloc | apply pw_below_drewN | apply below_drew1 | refine below_set ?_ GE121.out | refine below_set ?_ GE130.out) | exact HB.out)))); (case aL => have := LMc40.out; omega); intro v135 w44 ho hb hg hat; rw [← Ny134.out] at ho; have n0_ := Aside0.mk (blk_grown (g := gb121) (o := .cells #[.int .i64 a0_0, .slice A0_1 l0_1.length c0_1, .slice (some ad129) l0_2.length c0_2, .bool a0_3] 24 (0, 0)) (by (with_reducible repeat (first | refine blk_drewN ?_ _ | refine blk_drew ?_ | refine blk_alloc ?_ _)); refine blk_far ?_ NB121_130.out _; (with_reducible repeat (first | refine blk_drewN ?_ _ | refine blk_drew ?_ | refine blk_alloc ?_ _)); refine blk_far ?_ NB121_130.out _; (with_reducible repeat (first | refine blk_drewN ?_ _ | refine blk_drew ?_ | refine blk_alloc ?_ _)); refine blk_far ?_ NB121_130.out _; (with_reducible repeat (first | refine blk_drewN ?_ _ | refine blk_drew ?_ | refine blk_alloc ?_ _)); exact BK121.out) hg (Kd.R_ne HO_3.out BK121.out (by decide))); have n1_ := Aside0.mk (blk_grown (g := gb130) (o := .cells #[.int .i64 ((rd_T38 l0_2 x40_3).f0), .int .i64 ((rd_T38 l0_2 x40_3).f1), .int .i64 ((rd_T38 l0_2 x40_3).f2)] 38 (0, 0)) (by (with_reducible repeat (first | refine blk_drewN ?_ _ | refine blk_drew ?_ | refine blk_alloc ?_ _)); refine blk_put (cs := #[.int .i64 ((rd_T38 l0_2 x40_3).f0), .int .i64 ((rd_T38 l0_2 x40_3).f1), .int .i64 0]) ?_ 2 _ rfl; (with_reducible repeat (first | refine blk_drewN ?_ _ | refine blk_drew ?_ | refine blk_alloc ?_ _)); refine blk_put (cs := #[.int .i64 ((rd_T38 l0_2 x40_3).f0), .int .i64 0, .int .i64 0]) ?_ 1 _ rfl; (with_reducible repeat (first | refine blk_drewN ?_ _ | refine blk_drew ?_ | refine blk_alloc ?_ _)); refine blk_put (cs := #[.int .i64 0, .int .i64 0, .int .i64 0]) ?_ 0 _ rfl; (with_reducible repeat (first | refine blk_drewN ?_ _ | refine blk_drew ?_ | refine blk_alloc ?_ _)); exact BK130.out) hg (Kd.R_ne HO_3.out BK130.out (by decide))); have n2_ := Aside0.mk (hb); have n3_ := Aside0.mk (ho); clear BK121; clear BK130; clear HB; clear HO_3; have BK121 := n0_; have BK130 := n1_; have HB := n2_; have HO136 := n3_; clear n0_ n1_ n2_ n3_; clear ho hb hg hat))
                                go_roundg k3
                                case measure => have := HJ1.out; have := HK2.out; have := HK3.out; omega
                                case rel => exact ⟨(y134), (wrap64 (x40_3 + 1)), (by first | rfl | (simp; done) | (simp [*]; done)), H', ⟨by have := HJ1.out; have := HK2.out; have := HK3.out; omega⟩, ⟨by (with_reducible repeat (first | apply Kd.R_alloc | apply Kd.R_drewN | apply Kd.R_drew)); exact HO136.out⟩, ⟨by (with_reducible repeat (first | refine blk_drewN ?_ _ | refine blk_drew ?_ | refine blk_alloc ?_ _)); exact BK121.out⟩, ⟨by repeat (first | (with_reducible first | exact HB.out | apply below_alloc | apply pw_below_drewN | apply below_drew1 | refine below_set ?_ GE121.out | refine below_set ?_ GE130.out) | exact HB.out)⟩⟩
                              · rw [if_neg c40] at H
                                exact absurd H (by simp)
                            · rw [if_neg c39] at H
                              have c39b0 : (((rd_T38 l0_2 x40_3).f0) == 2) = false := beq_eq_false_iff_ne.mpr c39
                              have c39b1 : (((rd_T38 l0_2 x40_3).f0) != 2) = true := bne_iff_ne.mpr c39
                              have H' := Aside0.mk H
                              clear H
                              have p129 : 0 ≤ (x40_3 : Int) := of_decide_eq_true (by first | (with_reducible assumption) | assumption)
                              have q129 : x40_3 < (l0_2.length : Int) := of_decide_eq_true (by first | (with_reducible assumption) | assumption)
                              obtain ⟨ad129, e129, hx129_0, hx129_1, hx129_2⟩ := at_T38 HR0_2.out x40_3 p129 q129
                              cases e129
                              replace hx129_0 := (HB.out.cell (World.block_lt_of_cell? w _ hx129_0)).trans hx129_0
                              replace hx129_1 := (HB.out.cell (World.block_lt_of_cell? w _ hx129_1)).trans hx129_1
                              replace hx129_2 := (HB.out.cell (World.block_lt_of_cell? w _ hx129_2)).trans hx129_2
                              replace p129 := eq_true p129
                              replace q129 := eq_true q129
                              go_wp2_with (first | ((with_reducible refine gate_dst (N := 7) rfl ?_); refine box_event ?hg (N := 7) ?hd (cs := #[.int .i64 0, .int .i64 0, .int .i64 0]) (t := 38) ?hr ?_; (case hd => rfl); (case hg => rfl); (case hr => first | (go_simp; done) | (go_simp; rfl)); intro gb130 hg w45 hbox hb; have n0_ := Aside0.mk (Kd.R_below (by (with_reducible repeat (first | apply Kd.R_alloc | apply Kd.R_drewN | apply Kd.R_drew)); exact HO_3.out) hb); have n1_ := Aside0.mk (blk_below (g := gb121) (o := .cells #[.int .i64 a0_0, .slice A0_1 l0_1.length c0_1, .slice (some ad129) l0_2.length c0_2, .bool a0_3] 24 (0, 0)) (by (with_reducible repeat (first | refine blk_drewN ?_ _ | refine blk_drew ?_ | refine blk_alloc ?_ _)); exact BK121.out) hb); have n2_ := Aside0.mk (below_step (by repeat (first | (with_reducible first | exact HB.out | apply below_alloc | apply pw_below_drewN | apply below_drew1 | refine below_set ?_ GE121.out) | exact HB.out)) hb); have n3_ := Aside0.mk (hbox); have n4_ := Aside0.mk ((by rw [hg]; exact (below_size (by repeat (first | (with_reducible first | exact HB.out | apply below_alloc | apply pw_below_drewN | apply below_drew1 | refine below_set ?_ GE121.out) | exact HB.out))) : w.heap.size ≤ gb130)); have n5_ := Aside0.mk ((by rw [hg]; exact (below_size (by repeat (first | (with_reducible first | exact HB.out | apply below_alloc | apply pw_below_drewN | apply below_drew1 | refine below_set ?_ GE121.out) | exact HB.out))) : w.heap.size ≤ gb130)); have n6_ := Aside0.mk ((by rw [hg]; exact Nat.ne_of_lt (blk_lt (g := gb121) (o := .cells #[.int .i64 a0_0, .slice A0_1 l0_1.length c0_1, .slice (some ad129) l0_2.length c0_2, .bool a0_3] 24 (0, 0)) (by (with_reducible repeat (first | refine blk_drewN ?_ _ | refine blk_drew ?_ | refine blk_alloc ?_ _)); exact BK121.out)) : gb121 ≠ gb130)); have n7_ := Aside0.mk ((by rw [hg]; exact Nat.ne_of_gt (blk_lt (g := gb121) (o := .cells #[.int .i64 a0_0, .slice A0_1 l0_1.length c0_1, .slice (some ad129) l0_2.length c0_2, .bool a0_3] 24 (0, 0)) (by (with_reducible repeat (first | refine blk_drewN ?_ _ | refine blk_drew ?_ | refine blk_alloc ?_ _)); exact BK121.out)) : gb130 ≠ gb121)); clear HO_3; clear BK121; clear HB; have HO_3 := n0_; have BK121 := n1_; have HB := n2_; have BK130 := n3_; have GW130 := n4_; have GE130 := n5_; have NB121_130 := n6_; have NB130_121 := n7_; clear n0_ n1_ n2_ n3_ n4_ n5_ n6_ n7_; clear hb hbox hg; have hnb46 := NB130_121.out; have hnc46 := NB121_130.out; have hcz47_0 : w45.cell? ⟨gb130, 0, none⟩ = some (.int .i64 0) := (blk_cell BK130.out 0).trans rfl; have hcz47_1 : w45.cell? ⟨gb130, 1, none⟩ = some (.int .i64 0) := (blk_cell BK130.out 1).trans rfl; have hcz47_2 : w45.cell? ⟨gb130, 2, none⟩ = some (.int .i64 0) := (blk_cell BK130.out 2).trans rfl; have hfz47_0 := blk_frozen BK130.out 0; have hfz47_1 := blk_frozen BK130.out 1; have hfz47_2 := blk_frozen BK130.out 2))
                              go_roundg k3
                              case measure => have := HJ1.out; have := HK2.out; have := HK3.out; omega
                              case rel => exact ⟨(x3_3), (wrap64 (x40_3 + 1)), (by first | rfl | (simp; done) | (simp [*]; done)), H', ⟨by have := HJ1.out; have := HK2.out; have := HK3.out; omega⟩, ⟨by (with_reducible repeat (first | apply Kd.R_alloc | apply Kd.R_drewN | apply Kd.R_drew)); exact Kd.R_mono (Kd.R_far (p := ⟨gb130, 2, none⟩) (Kd.R_far (p := ⟨gb130, 1, none⟩) (Kd.R_far (p := ⟨gb130, 0, none⟩) (Kd.R_types HO_3.out BK130.out (by decide)) (fun _ hk => hk.2) (.int .i64 ((rd_T38 l0_2 x40_3).f0))) (fun _ hk => hk.2) (.int .i64 ((rd_T38 l0_2 x40_3).f1))) (fun _ hk => hk.2) (.int .i64 ((rd_T38 l0_2 x40_3).f2))) (fun _ hk => trivial)⟩, ⟨by (with_reducible repeat (first | refine blk_drewN ?_ _ | refine blk_drew ?_ | refine blk_alloc ?_ _)); refine blk_far ?_ NB121_130.out _; (with_reducible repeat (first | refine blk_drewN ?_ _ | refine blk_drew ?_ | refine blk_alloc ?_ _)); refine blk_far ?_ NB121_130.out _; (with_reducible repeat (first | refine blk_drewN ?_ _ | refine blk_drew ?_ | refine blk_alloc ?_ _)); refine blk_far ?_ NB121_130.out _; (with_reducible repeat (first | refine blk_drewN ?_ _ | refine blk_drew ?_ | refine blk_alloc ?_ _)); exact BK121.out⟩, ⟨by repeat (first | (with_reducible first | exact HB.out | apply below_alloc | apply pw_below_drewN | apply below_drew1 | refine below_set ?_ GE121.out | refine below_set ?_ GE130.out) | exact HB.out)⟩⟩
                        · rw [if_neg c32] at H
                          exact absurd H (by simp)
                      · rw [if_neg c31] at H
                        exact absurd H (by simp)
                    · rw [if_neg c30] at H
                      have c30b0 : decide (x40_3 < (l0_2.length : Int)) = false := decide_eq_false c30
                      clear c30
                      obtain rfl := Option.some.inj H
                      go_wp2
                      go_ret
                      exact ⟨_, by first | rfl | (simp [errW_none, errW_some] <;> rfl) | (simp [*, errW_none, errW_some] <;> rfl), by (with_reducible repeat (first | apply Kd.R_alloc | apply Kd.R_drewN | apply Kd.R_drew)); exact HO_3.out, by repeat (first | (with_reducible first | exact HB.out | apply below_alloc | apply pw_below_drewN | apply below_drew1 | refine below_set ?_ GE121.out) | exact HB.out)⟩
              · replace c26 := Bool.eq_false_iff.mpr c26
                subst c26
                have H1 : (some x3_2) = some r := by rw [if_neg (show ¬ (false = true) by decide)] at H; exact H
                clear H
                have H := H1
                clear H1
                obtain rfl := Option.some.inj H
                have hcz48_0 : wr.cell? ⟨gb121, 0, none⟩ = some (.int .i64 a0_0) := (blk_cell BK121.out 0).trans rfl
                have hcz48_1 : wr.cell? ⟨gb121, 1, none⟩ = some (.slice A0_1 l0_1.length c0_1) := (blk_cell BK121.out 1).trans rfl
                have hcz48_2 : wr.cell? ⟨gb121, 2, none⟩ = some (.slice A0_2 l0_2.length c0_2) := (blk_cell BK121.out 2).trans rfl
                have hcz48_3 : wr.cell? ⟨gb121, 3, none⟩ = some (.bool a0_3) := (blk_cell BK121.out 3).trans rfl
                have hfz48_0 := blk_frozen BK121.out 0
                have hfz48_1 := blk_frozen BK121.out 1
                have hfz48_2 := blk_frozen BK121.out 2
                have hfz48_3 := blk_frozen BK121.out 3
                go_wp2_with (first | ((with_reducible refine gate_callee (f := 40) rfl ?_); refine goesL_ (some 34) rfl rfl Tryd.func40 (by kernel_rfl) rfl #[.slice A0_1 l0_1.length c0_1] rfl (by (try simp only [List.map_toArray, List.map_cons, List.map_nil]); first | done | rfl | (simp only [List.length_drop, List.length_take]; rfl)) ?_; (with_reducible refine (ledger_all.calls k2 _ _ l0_1 false _ ?side1 ?side2 A25.out).mono ?_); (case side1 => repeat (first | exact (Kd.C_below HR0_1.out HB.out) | (with_reducible refine Kd.C_alloc ?_ _) | (with_reducible refine Kd.C_drewN ?_ _) | (with_reducible refine Kd.C_drew ?_))); (case side2 => exact HC0_1.out); rintro e w49 ⟨rfl, hb⟩; refine ⟨_, rfl, ?_⟩; have n0_ := Aside0.mk (Kd.R_below (by (with_reducible repeat (first | apply Kd.R_alloc | apply Kd.R_drewN | apply Kd.R_drew)); exact HO_3.out) hb); have n1_ := Aside0.mk (blk_below (g := gb121) (o := .cells #[.int .i64 a0_0, .slice A0_1 l0_1.length c0_1, .slice A0_2 l0_2.length c0_2, .bool a0_3] 24 (0, 0)) (by (with_reducible repeat (first | refine blk_drewN ?_ _ | refine blk_drew ?_ | refine blk_alloc ?_ _)); exact BK121.out) hb); have n2_ := Aside0.mk (below_step (by repeat (first | (with_reducible first | exact HB.out | apply below_alloc | apply pw_below_drewN | apply below_drew1 | refine below_set ?_ GE121.out) | exact HB.out)) hb); clear HO_3; clear BK121; clear HB; have HO_3 := n0_; have BK121 := n1_; have HB := n2_; clear n0_ n1_ n2_; (try clear hb); (try clear hb2); (try clear hk); (try clear hi)))
                go_ret
                exact ⟨_, by first | rfl | (simp [errW_none, errW_some] <;> rfl) | (simp [*, errW_none, errW_some] <;> rfl), by (with_reducible repeat (first | apply Kd.R_alloc | apply Kd.R_drewN | apply Kd.R_drew)); exact HO_3.out, by repeat (first | (with_reducible first | exact HB.out | apply below_alloc | apply pw_below_drewN | apply below_drew1 | refine below_set ?_ GE121.out) | exact HB.out)⟩

end Go.Proofs.YtponmfnegdlppaaDoor.P

end
section
-- Written by a program of this session (wip/tools/hprint.py, over the kit's printer), not by hand. Lean checks it.
namespace Go.Proofs.YtponmfnegdlppaaDoor.P
open Go.RowKit Go.Proofs.YtponmfnegdlppaaDoorW.PrintWords Go.Proofs.YtponmfnegdlppaaDoorW.PrintLast Go.Proofs.YtponmfnegdlppaaDoorW.PrintMore
attribute [local go_sem] max2_int min2_int max_two min_two max_three min_three max_four min_four
set_option linter.unusedVariables false
set_option linter.unusedSimpArgs false

/-! ### winnowref19_good: function 42 -/
def winnowref19_good.j0 : Nat → Int → Bool → Int → Int → Int → Option (Bool)
  | 0, _, _, _, _, _ => none
  | k + 1, x1, x34, x138000, x138001, x138002 => if x34 = true then (some false) else (if x138000 = 0 then (some (x138001 == x138002)) else (if x138001 = (wrap64 (x138002 + 1)) then (some (decide (x138002 < x1))) else (some false)))
def winnowref19_good.f (k : Nat) (a0_0 : Int) (a0_1 : Int) (a0_2 : Int) (a1 : Int) (a2 : Bool) : Option (Bool) := if a0_0 < 0 then (winnowref19_good.j0 k a1 true a0_0 a0_1 a0_2) else (if a0_0 > 3 then (winnowref19_good.j0 k a1 true a0_0 a0_1 a0_2) else (if a0_0 = 2 then (if a2 = true then (if a0_2 < 0 then (winnowref19_good.j0 k a1 true a0_0 a0_1 a0_2) else (winnowref19_good.j0 k a1 (decide (a0_2 > a1)) a0_0 a0_1 a0_2)) else (winnowref19_good.j0 k a1 true a0_0 a0_1 a0_2)) else (if a0_2 < 0 then (winnowref19_good.j0 k a1 true a0_0 a0_1 a0_2) else (winnowref19_good.j0 k a1 (decide (a0_2 > a1)) a0_0 a0_1 a0_2))))
theorem winnowref19_good.mono_l : ∀ k, (∀ y0 y1 y2 y3 y4, LeO (winnowref19_good.j0 k y0 y1 y2 y3 y4) (winnowref19_good.j0 (k + 1) y0 y1 y2 y3 y4))
  | 0 => fun _ _ _ _ _ r h => by simp [winnowref19_good.j0] at h
  | k + 1 => by
    have ih0 := winnowref19_good.mono_l k
    · intro y0 y1 y2 y3 y4
      unfold winnowref19_good.j0
      repeat' first
      | (with_reducible exact ih0 _ _ _ _ _)
      | (with_reducible exact LeO.refl _)
      | (with_reducible exact LeO.none _)
      | (with_reducible refine LeO.ite ?_ ?_)
      | (with_reducible refine LeO.bind ?_ (fun _ => ?_))
      | exact ih0 _ _ _ _ _
      | exact LeO.none _
      | refine LeO.ite ?_ ?_
      | refine LeO.bind ?_ (fun _ => ?_)
theorem winnowref19_good.mono : ∀ a0 a1 a2 a3 a4 k, LeO (winnowref19_good.f k a0 a1 a2 a3 a4) (winnowref19_good.f (k + 1) a0 a1 a2 a3 a4) := by
  intro a0 a1 a2 a3 a4 k
  have ih0 := winnowref19_good.mono_l k
  unfold winnowref19_good.f
  repeat' first
      | (with_reducible exact ih0 _ _ _ _ _)
      | (with_reducible exact LeO.refl _)
      | (with_reducible exact LeO.none _)
      | (with_reducible refine LeO.ite ?_ ?_)
      | (with_reducible refine LeO.bind ?_ (fun _ => ?_))
      | exact ih0 _ _ _ _ _
      | exact LeO.none _
      | refine LeO.ite ?_ ?_
      | refine LeO.bind ?_ (fun _ => ?_)
set_option maxHeartbeats 8000000 in
set_option maxRecDepth 100000 in
theorem winnowref19_good.calls (k : Nat) (a0_0 : Int) (a0_1 : Int) (a0_2 : Int) (a1 : Int) (a2 : Bool) (r : Bool) (w : World) (h : winnowref19_good.f k a0_0 a0_1 a0_2 a1 a2 = some r) :
    Calls Tryd.prog 42 #[.agg #[.int .i64 a0_0, .int .i64 a0_1, .int .i64 a0_2], .int .i64 a1, .bool a2] w fun e w' => e = .returned (.bool r) ∧ Below w.heap.size w w' := by
  have hu38 := Tryd.underlying38
  have HB := Aside0.mk (Below.refl w.heap.size w)
  have H : (if a0_0 < 0 then (winnowref19_good.j0 k a1 true a0_0 a0_1 a0_2) else (if a0_0 > 3 then (winnowref19_good.j0 k a1 true a0_0 a0_1 a0_2) else (if a0_0 = 2 then (if a2 = true then (if a0_2 < 0 then (winnowref19_good.j0 k a1 true a0_0 a0_1 a0_2) else (winnowref19_good.j0 k a1 (decide (a0_2 > a1)) a0_0 a0_1 a0_2)) else (winnowref19_good.j0 k a1 true a0_0 a0_1 a0_2)) else (if a0_2 < 0 then (winnowref19_good.j0 k a1 true a0_0 a0_1 a0_2) else (winnowref19_good.j0 k a1 (decide (a0_2 > a1)) a0_0 a0_1 a0_2))))) = some r := h
  clear h
  have HC4 := Aside0.mk H
  clear H
  go_enter Tryd.func42, Tryd.ntmps42
  go_upto_region 1 with (first | ((with_reducible refine gate_dst (N := 3) rfl ?_); refine box_event ?hg (N := 3) ?hd (cs := #[.int .i64 a0_0, .int .i64 a0_1, .int .i64 a0_2]) (t := 38) ?hr ?_; (case hd => rfl); (case hg => rfl); (case hr => first | (go_simp; done) | (go_simp; rfl)); intro gb137 hg w5 hbox hb; have n0_ := Aside0.mk (below_step (by repeat (first | (with_reducible first | exact HB.out | apply below_alloc | apply pw_below_drewN | apply below_drew1) | exact HB.out)) hb); have n1_ := Aside0.mk (hbox); have n2_ := Aside0.mk ((by rw [hg]; exact (below_size (by repeat (first | (with_reducible first | exact HB.out | apply below_alloc | apply pw_below_drewN | apply below_drew1) | exact HB.out))) : w.heap.size ≤ gb137)); have n3_ := Aside0.mk ((by rw [hg]; exact (below_size (by repeat (first | (with_reducible first | exact HB.out | apply below_alloc | apply pw_below_drewN | apply below_drew1) | exact HB.out))) : w.heap.size ≤ gb137)); clear HB; have HB := n0_; have BK137 := n1_; have GW137 := n2_; have GE137 := n3_; clear n0_ n1_ n2_ n3_; clear hb hbox hg))
  (try simp only [Act.put, List.setIfInBounds_toArray, List.set_cons_zero, List.set_cons_succ])
  go_cut [34] (fun v34 wc => ∃ (kq : Nat) (x34_3 : Bool), v34 = .bool x34_3 ∧ Aside0 (winnowref19_good.j0 kq a1 x34_3 a0_0 a0_1 a0_2 = some r) ∧ Aside0 (kq ≤ k) ∧ Aside0 (wc.heap[gb137]? = some (.cells #[.int .i64 a0_0, .int .i64 a0_1, .int .i64 a0_2] 38 (0, 0))) ∧ Aside0 (Below w.heap.size w wc))
  case first =>
    have H := HC4.out
    clear HC4
    by_cases c6 : a0_0 < 0
    · rw [if_pos c6] at H
      have c6b0 : decide (a0_0 < 0) = true := decide_eq_true c6
      clear c6
      (first | rw [c6b0] | (simp only [i64_w, i32_w]; rw [c6b0]) | skip)
      have H' := Aside0.mk H
      clear H
      have hcz7_0 : w5.cell? ⟨gb137, 0, none⟩ = some (.int .i64 a0_0) := (blk_cell BK137.out 0).trans rfl
      have hcz7_1 : w5.cell? ⟨gb137, 1, none⟩ = some (.int .i64 a0_1) := (blk_cell BK137.out 1).trans rfl
      have hcz7_2 : w5.cell? ⟨gb137, 2, none⟩ = some (.int .i64 a0_2) := (blk_cell BK137.out 2).trans rfl
      have hfz7_0 := blk_frozen BK137.out 0
      have hfz7_1 := blk_frozen BK137.out 1
      have hfz7_2 := blk_frozen BK137.out 2
      go_wp2
      go_meet
      case rel => exact ⟨_, (true), (by first | rfl | (simp; done) | (simp [*]; done)), H', ⟨by first | omega | exact Nat.le_refl _⟩, ⟨by (with_reducible repeat (first | refine blk_drewN ?_ _ | refine blk_drew ?_ | refine blk_alloc ?_ _)); exact BK137.out⟩, ⟨by repeat (first | (with_reducible first | exact HB.out | apply below_alloc | apply pw_below_drewN | apply below_drew1 | refine below_set ?_ GE137.out) | exact HB.out)⟩⟩
    · rw [if_neg c6] at H
      have c6b0 : decide (a0_0 < 0) = false := decide_eq_false c6
      clear c6
      (first | rw [c6b0] | (simp only [i64_w, i32_w]; rw [c6b0]) | skip)
      by_cases c8 : a0_0 > 3
      · rw [if_pos c8] at H
        have c8b0 : decide (3 < a0_0) = true := decide_eq_true c8
        clear c8
        have H' := Aside0.mk H
        clear H
        have hcz9_0 : w5.cell? ⟨gb137, 0, none⟩ = some (.int .i64 a0_0) := (blk_cell BK137.out 0).trans rfl
        have hcz9_1 : w5.cell? ⟨gb137, 1, none⟩ = some (.int .i64 a0_1) := (blk_cell BK137.out 1).trans rfl
        have hcz9_2 : w5.cell? ⟨gb137, 2, none⟩ = some (.int .i64 a0_2) := (blk_cell BK137.out 2).trans rfl
        have hfz9_0 := blk_frozen BK137.out 0
        have hfz9_1 := blk_frozen BK137.out 1
        have hfz9_2 := blk_frozen BK137.out 2
        go_wp2
        go_meet
        case rel => exact ⟨_, (true), (by first | rfl | (simp; done) | (simp [*]; done)), H', ⟨by first | omega | exact Nat.le_refl _⟩, ⟨by (with_reducible repeat (first | refine blk_drewN ?_ _ | refine blk_drew ?_ | refine blk_alloc ?_ _)); exact BK137.out⟩, ⟨by repeat (first | (with_reducible first | exact HB.out | apply below_alloc | apply pw_below_drewN | apply below_drew1 | refine below_set ?_ GE137.out) | exact HB.out)⟩⟩
      · rw [if_neg c8] at H
        have c8b0 : decide (3 < a0_0) = false := decide_eq_false c8
        clear c8
        by_cases c10 : a0_0 = 2
        · rw [if_pos c10] at H
          have c10b0 : (a0_0 == 2) = true := beq_iff_eq.mpr c10
          have c10b1 : (a0_0 != 2) = false := bne_eq_false_iff_eq.mpr c10
          clear c10
          by_cases c11 : a2 = true
          · subst c11
            have H1 : (if a0_2 < 0 then (winnowref19_good.j0 k a1 true a0_0 a0_1 a0_2) else (winnowref19_good.j0 k a1 (decide (a0_2 > a1)) a0_0 a0_1 a0_2)) = some r := by rw [if_pos rfl] at H; exact H
            clear H
            have H := H1
            clear H1
            by_cases c12 : a0_2 < 0
            · rw [if_pos c12] at H
              have c12b0 : decide (a0_2 < 0) = true := decide_eq_true c12
              clear c12
              have H' := Aside0.mk H
              clear H
              have hcz13_0 : w5.cell? ⟨gb137, 0, none⟩ = some (.int .i64 a0_0) := (blk_cell BK137.out 0).trans rfl
              have hcz13_1 : w5.cell? ⟨gb137, 1, none⟩ = some (.int .i64 a0_1) := (blk_cell BK137.out 1).trans rfl
              have hcz13_2 : w5.cell? ⟨gb137, 2, none⟩ = some (.int .i64 a0_2) := (blk_cell BK137.out 2).trans rfl
              have hfz13_0 := blk_frozen BK137.out 0
              have hfz13_1 := blk_frozen BK137.out 1
              have hfz13_2 := blk_frozen BK137.out 2
              go_wp2
              go_meet
              case rel => exact ⟨_, (true), (by first | rfl | (simp; done) | (simp [*]; done)), H', ⟨by first | omega | exact Nat.le_refl _⟩, ⟨by (with_reducible repeat (first | refine blk_drewN ?_ _ | refine blk_drew ?_ | refine blk_alloc ?_ _)); exact BK137.out⟩, ⟨by repeat (first | (with_reducible first | exact HB.out | apply below_alloc | apply pw_below_drewN | apply below_drew1 | refine below_set ?_ GE137.out) | exact HB.out)⟩⟩
            · rw [if_neg c12] at H
              have c12b0 : decide (a0_2 < 0) = false := decide_eq_false c12
              clear c12
              have H' := Aside0.mk H
              clear H
              have hcz14_0 : w5.cell? ⟨gb137, 0, none⟩ = some (.int .i64 a0_0) := (blk_cell BK137.out 0).trans rfl
              have hcz14_1 : w5.cell? ⟨gb137, 1, none⟩ = some (.int .i64 a0_1) := (blk_cell BK137.out 1).trans rfl
              have hcz14_2 : w5.cell? ⟨gb137, 2, none⟩ = some (.int .i64 a0_2) := (blk_cell BK137.out 2).trans rfl
              have hfz14_0 := blk_frozen BK137.out 0
              have hfz14_1 := blk_frozen BK137.out 1
              have hfz14_2 := blk_frozen BK137.out 2
              go_wp2
              go_meet
              case rel => exact ⟨_, (decide (a0_2 > a1)), (by first | rfl | (simp; done) | (simp [*]; done)), H', ⟨by first | omega | exact Nat.le_refl _⟩, ⟨by (with_reducible repeat (first | refine blk_drewN ?_ _ | refine blk_drew ?_ | refine blk_alloc ?_ _)); exact BK137.out⟩, ⟨by repeat (first | (with_reducible first | exact HB.out | apply below_alloc | apply pw_below_drewN | apply below_drew1 | refine below_set ?_ GE137.out) | exact HB.out)⟩⟩
          · replace c11 := Bool.eq_false_iff.mpr c11
            subst c11
            have H1 : (winnowref19_good.j0 k a1 true a0_0 a0_1 a0_2) = some r := by rw [if_neg (show ¬ (false = true) by decide)] at H; exact H
            clear H
            have H := H1
            clear H1
            have H' := Aside0.mk H
            clear H
            have hcz15_0 : w5.cell? ⟨gb137, 0, none⟩ = some (.int .i64 a0_0) := (blk_cell BK137.out 0).trans rfl
            have hcz15_1 : w5.cell? ⟨gb137, 1, none⟩ = some (.int .i64 a0_1) := (blk_cell BK137.out 1).trans rfl
            have hcz15_2 : w5.cell? ⟨gb137, 2, none⟩ = some (.int .i64 a0_2) := (blk_cell BK137.out 2).trans rfl
            have hfz15_0 := blk_frozen BK137.out 0
            have hfz15_1 := blk_frozen BK137.out 1
            have hfz15_2 := blk_frozen BK137.out 2
            go_wp2
            go_meet
            case rel => exact ⟨_, (true), (by first | rfl | (simp; done) | (simp [*]; done)), H', ⟨by first | omega | exact Nat.le_refl _⟩, ⟨by (with_reducible repeat (first | refine blk_drewN ?_ _ | refine blk_drew ?_ | refine blk_alloc ?_ _)); exact BK137.out⟩, ⟨by repeat (first | (with_reducible first | exact HB.out | apply below_alloc | apply pw_below_drewN | apply below_drew1 | refine below_set ?_ GE137.out) | exact HB.out)⟩⟩
        · rw [if_neg c10] at H
          have c10b0 : (a0_0 == 2) = false := beq_eq_false_iff_ne.mpr c10
          have c10b1 : (a0_0 != 2) = true := bne_iff_ne.mpr c10
          by_cases c16 : a0_2 < 0
          · rw [if_pos c16] at H
            have c16b0 : decide (a0_2 < 0) = true := decide_eq_true c16
            clear c16
            have H' := Aside0.mk H
            clear H
            have hcz17_0 : w5.cell? ⟨gb137, 0, none⟩ = some (.int .i64 a0_0) := (blk_cell BK137.out 0).trans rfl
            have hcz17_1 : w5.cell? ⟨gb137, 1, none⟩ = some (.int .i64 a0_1) := (blk_cell BK137.out 1).trans rfl
            have hcz17_2 : w5.cell? ⟨gb137, 2, none⟩ = some (.int .i64 a0_2) := (blk_cell BK137.out 2).trans rfl
            have hfz17_0 := blk_frozen BK137.out 0
            have hfz17_1 := blk_frozen BK137.out 1
            have hfz17_2 := blk_frozen BK137.out 2
            go_wp2
            go_meet
            case rel => exact ⟨_, (true), (by first | rfl | (simp; done) | (simp [*]; done)), H', ⟨by first | omega | exact Nat.le_refl _⟩, ⟨by (with_reducible repeat (first | refine blk_drewN ?_ _ | refine blk_drew ?_ | refine blk_alloc ?_ _)); exact BK137.out⟩, ⟨by repeat (first | (with_reducible first | exact HB.out | apply below_alloc | apply pw_below_drewN | apply below_drew1 | refine below_set ?_ GE137.out) | exact HB.out)⟩⟩
          · rw [if_neg c16] at H
            have c16b0 : decide (a0_2 < 0) = false := decide_eq_false c16
            clear c16
            have H' := Aside0.mk H
            clear H
            have hcz18_0 : w5.cell? ⟨gb137, 0, none⟩ = some (.int .i64 a0_0) := (blk_cell BK137.out 0).trans rfl
            have hcz18_1 : w5.cell? ⟨gb137, 1, none⟩ = some (.int .i64 a0_1) := (blk_cell BK137.out 1).trans rfl
            have hcz18_2 : w5.cell? ⟨gb137, 2, none⟩ = some (.int .i64 a0_2) := (blk_cell BK137.out 2).trans rfl
            have hfz18_0 := blk_frozen BK137.out 0
            have hfz18_1 := blk_frozen BK137.out 1
            have hfz18_2 := blk_frozen BK137.out 2
            go_wp2
            go_meet
            case rel => exact ⟨_, (decide (a0_2 > a1)), (by first | rfl | (simp; done) | (simp [*]; done)), H', ⟨by first | omega | exact Nat.le_refl _⟩, ⟨by (with_reducible repeat (first | refine blk_drewN ?_ _ | refine blk_drew ?_ | refine blk_alloc ?_ _)); exact BK137.out⟩, ⟨by repeat (first | (with_reducible first | exact HB.out | apply below_alloc | apply pw_below_drewN | apply below_drew1 | refine below_set ?_ GE137.out) | exact HB.out)⟩⟩
  case rest =>
    clear HC4
    try clear c1
    try clear p2
    try clear c4
    try clear c6
    try clear c6b0
    try clear c8
    try clear c8b0
    try clear c10
    try clear c10b0
    try clear c10b1
    try clear c11
    try clear c12
    try clear c12b0
    try clear c16
    try clear c16b0
    try clear hcz13_0
    try clear hcz13_1
    try clear hcz13_2
    try clear hcz14_0
    try clear hcz14_1
    try clear hcz14_2
    try clear hcz15_0
    try clear hcz15_1
    try clear hcz15_2
    try clear hcz17_0
    try clear hcz17_1
    try clear hcz17_2
    try clear hcz18_0
    try clear hcz18_1
    try clear hcz18_2
    try clear hcz7_0
    try clear hcz7_1
    try clear hcz7_2
    try clear hcz9_0
    try clear hcz9_1
    try clear hcz9_2
    try clear hfz13_0
    try clear hfz13_1
    try clear hfz13_2
    try clear hfz14_0
    try clear hfz14_1
    try clear hfz14_2
    try clear hfz15_0
    try clear hfz15_1
    try clear hfz15_2
    try clear hfz17_0
    try clear hfz17_1
    try clear hfz17_2
    try clear hfz18_0
    try clear hfz18_1
    try clear hfz18_2
    try clear hfz7_0
    try clear hfz7_1
    try clear hfz7_2
    try clear hfz9_0
    try clear hfz9_1
    try clear hfz9_2
    obtain ⟨kq, x34_3, rfl, HA, HJ3, BK137, HB⟩ := hcut
    cases kq with
    | zero => exact absurd HA.out (by simp [winnowref19_good.j0])
    | succ kj3 =>
      have H := HA.out
      clear HA
      simp only [winnowref19_good.j0] at H
      by_cases c19 : x34_3 = true
      · subst c19
        have H1 : (some false) = some r := by rw [if_pos rfl] at H; exact H
        clear H
        have H := H1
        clear H1
        obtain rfl := Option.some.inj H
        go_wp2
        go_ret
        exact ⟨by first | rfl | (simp [errW_none, errW_some] <;> rfl) | (simp [*, errW_none, errW_some] <;> rfl), by repeat (first | (with_reducible first | exact HB.out | apply below_alloc | apply pw_below_drewN | apply below_drew1 | refine below_set ?_ GE137.out) | exact HB.out)⟩
      · replace c19 := Bool.eq_false_iff.mpr c19
        subst c19
        have H1 : (if a0_0 = 0 then (some (a0_1 == a0_2)) else (if a0_1 = (wrap64 (a0_2 + 1)) then (some (decide (a0_2 < a1))) else (some false))) = some r := by rw [if_neg (show ¬ (false = true) by decide)] at H; exact H
        clear H
        have H := H1
        clear H1
        by_cases c20 : a0_0 = 0
        · rw [if_pos c20] at H
          have c20b0 : (a0_0 == 0) = true := beq_iff_eq.mpr c20
          have c20b1 : (a0_0 != 0) = false := bne_eq_false_iff_eq.mpr c20
          clear c20
          obtain rfl := Option.some.inj H
          have hcz21_0 : wc.cell? ⟨gb137, 0, none⟩ = some (.int .i64 a0_0) := (blk_cell BK137.out 0).trans rfl
          have hcz21_1 : wc.cell? ⟨gb137, 1, none⟩ = some (.int .i64 a0_1) := (blk_cell BK137.out 1).trans rfl
          have hcz21_2 : wc.cell? ⟨gb137, 2, none⟩ = some (.int .i64 a0_2) := (blk_cell BK137.out 2).trans rfl
          have hfz21_0 := blk_frozen BK137.out 0
          have hfz21_1 := blk_frozen BK137.out 1
          have hfz21_2 := blk_frozen BK137.out 2
          go_wp2
          go_ret
          exact ⟨by first | rfl | (simp [errW_none, errW_some] <;> rfl) | (simp [*, errW_none, errW_some] <;> rfl), by repeat (first | (with_reducible first | exact HB.out | apply below_alloc | apply pw_below_drewN | apply below_drew1 | refine below_set ?_ GE137.out) | exact HB.out)⟩
        · rw [if_neg c20] at H
          have c20b0 : (a0_0 == 0) = false := beq_eq_false_iff_ne.mpr c20
          have c20b1 : (a0_0 != 0) = true := bne_iff_ne.mpr c20
          by_cases c22 : a0_1 = (wrap64 (a0_2 + 1))
          · rw [if_pos c22] at H
            have c22b0 : (a0_1 == (wrap64 (a0_2 + 1))) = true := beq_iff_eq.mpr c22
            have c22b1 : (a0_1 != (wrap64 (a0_2 + 1))) = false := bne_eq_false_iff_eq.mpr c22
            clear c22
            obtain rfl := Option.some.inj H
            have hcz23_0 : wc.cell? ⟨gb137, 0, none⟩ = some (.int .i64 a0_0) := (blk_cell BK137.out 0).trans rfl
            have hcz23_1 : wc.cell? ⟨gb137, 1, none⟩ = some (.int .i64 a0_1) := (blk_cell BK137.out 1).trans rfl
            have hcz23_2 : wc.cell? ⟨gb137, 2, none⟩ = some (.int .i64 a0_2) := (blk_cell BK137.out 2).trans rfl
            have hfz23_0 := blk_frozen BK137.out 0
            have hfz23_1 := blk_frozen BK137.out 1
            have hfz23_2 := blk_frozen BK137.out 2
            go_wp2
            go_ret
            exact ⟨by first | rfl | (simp [errW_none, errW_some] <;> rfl) | (simp [*, errW_none, errW_some] <;> rfl), by repeat (first | (with_reducible first | exact HB.out | apply below_alloc | apply pw_below_drewN | apply below_drew1 | refine below_set ?_ GE137.out) | exact HB.out)⟩
          · rw [if_neg c22] at H
            have c22b0 : (a0_1 == (wrap64 (a0_2 + 1))) = false := beq_eq_false_iff_ne.mpr c22
            have c22b1 : (a0_1 != (wrap64 (a0_2 + 1))) = true := bne_iff_ne.mpr c22
            obtain rfl := Option.some.inj H
            have hcz24_0 : wc.cell? ⟨gb137, 0, none⟩ = some (.int .i64 a0_0) := (blk_cell BK137.out 0).trans rfl
            have hcz24_1 : wc.cell? ⟨gb137, 1, none⟩ = some (.int .i64 a0_1) := (blk_cell BK137.out 1).trans rfl
            have hcz24_2 : wc.cell? ⟨gb137, 2, none⟩ = some (.int .i64 a0_2) := (blk_cell BK137.out 2).trans rfl
            have hfz24_0 := blk_frozen BK137.out 0
            have hfz24_1 := blk_frozen BK137.out 1
            have hfz24_2 := blk_frozen BK137.out 2
            go_wp2
            go_ret
            exact ⟨by first | rfl | (simp [errW_none, errW_some] <;> rfl) | (simp [*, errW_none, errW_some] <;> rfl), by repeat (first | (with_reducible first | exact HB.out | apply below_alloc | apply pw_below_drewN | apply below_drew1 | refine below_set ?_ GE137.out) | exact HB.out)⟩

end Go.Proofs.YtponmfnegdlppaaDoor.P

end
