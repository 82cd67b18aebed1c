/- Several texts laid together (wip/tools/merge2.py): HMove, Pf33, HLX, HLedC. -/
import Derived.Test.YtponmfnegdlppaaDoorMP11
import Derived.Test.YtponmfnegdlppaaDoorMP12
import Derived.Test.YtponmfnegdlppaaDoorMP1
import Derived.Outline
import Derived.Deep.DeepCutAuto
import Derived.Deep.RegionHeld3
import Derived.Test.YtponmfnegdlppaaDoorMP9
import Derived.Test.YtponmfnegdlppaaDoorMP2
section
/- made: whatever the move, in one contract. -/
namespace Go.Proofs.YtponmfnegdlppaaDoor.P
open Go.RowKit Go.Proofs.YtponmfnegdlppaaDoorW.PrintWords Go.Proofs.YtponmfnegdlppaaDoorW.PrintLast Go.Proofs.YtponmfnegdlppaaDoorW.PrintMore
set_option linter.unusedVariables false

def Made (w0 : World) (B : List Bx) (gN : Nat) (t : Int) (m r : Nat) (o tk tb : Int) (mt rt : Nat) (A0 : Option Addr) (p0 : Nat) (l0 : List S38) (A1 : Option Addr) (p1 : Nat) (l1 : List S38) (fl : Bool) (e : Ending) (W' : World) : Prop :=
  ∃ (A0' A1' : Option Addr) (p0' p1' : Nat) (l0' l1' : List S38) (fl' : Bool) (bg' ch' : Nat → Bool) (s' c' : Int), e = .returned (.tuple #[.agg #[.int .i64 t, .slice A0' l0'.length p0', .slice A1' l1'.length p1', .bool fl'], .bool true]) ∧ INV t l0' l1' fl' m r bg' ch' s' c' ∧ Stays o tk tb mt rt fl l0 l1 l0' l1' fl' ∧
    Env w0 (⟨gN, ncells bg' ch' s' c', 56⟩ :: B) (⟨1, k38, 38, .slice A0' l0'.length p0', l0'⟩ :: ⟨2, k38, 38, .slice A1' l1'.length p1', l1'⟩ :: []) W' ∧
    Env w0 (⟨gN, ncells bg' ch' s' c', 56⟩ :: B) (⟨1, k38, 38, .slice A0 l0.length p0, l0⟩ :: ⟨2, k38, 38, .slice A1 l1.length p1, l1⟩ :: []) W'
theorem Env.back12 {w0 W : World} {B : List Bx} {e : Nat} {v v' : Value} {l l' : List S38} (h : Env w0 B (⟨3, k38, e, v, l⟩ :: ⟨4, k38, e, v', l'⟩ :: []) W) : Env w0 B (⟨1, k38, e, v, l⟩ :: ⟨2, k38, e, v', l'⟩ :: []) W :=
  h.rename (fun x => swapc 1 3 (swapc 2 4 x)) (fun a b q => swapc_inj 2 4 _ _ (swapc_inj 1 3 _ _ q)) rfl
section
variable {w0 W : World} {B : List Bx} {gN : Nat} {bg ch : Nat → Bool} {s c t : Int} {A0 A1 : Option Addr} {p0 p1 : Nat} {l0 l1 : List S38} {fl : Bool} {m r : Nat}
theorem Made.of_same {o tk tb : Int} {mt rt : Nat} (hI : INV t l0 l1 fl m r bg ch s c) {e : Ending} {W' : World} (h : e = .returned (.tuple #[.agg #[.int .i64 t, .slice A0 l0.length p0, .slice A1 l1.length p1, .bool fl], .bool true]) ∧ Env w0 (⟨gN, ncells bg ch s c, 56⟩ :: B) (⟨1, k38, 38, .slice A0 l0.length p0, l0⟩ :: ⟨2, k38, 38, .slice A1 l1.length p1, l1⟩ :: []) W') :
    Made w0 B gN t m r o tk tb mt rt A0 p0 l0 A1 p1 l1 fl e W' := ⟨_, _, _, _, _, _, _, _, _, _, _, h.1, hI, Stays.same .., h.2, h.2⟩
theorem Made.of_new {o tk tb : Int} {mt rt : Nat} {l0' l1' : List S38} {fl' : Bool} {bg' ch' : Nat → Bool} {s' c' : Int} (hI : INV t l0' l1' fl' m r bg' ch' s' c') (hS : Stays o tk tb mt rt fl l0 l1 l0' l1' fl') {e : Ending} {W' : World}
    (h : ∃ (P0 P1 : Option Addr) (q0_ q1_ : Nat), e = .returned (.tuple #[.agg #[.int .i64 t, .slice P0 l0'.length q0_, .slice P1 l1'.length q1_, .bool fl'], .bool true]) ∧ Env w0 (⟨gN, ncells bg' ch' s' c', 56⟩ :: B) (⟨3, k38, 38, .slice P0 l0'.length q0_, l0'⟩ :: ⟨4, k38, 38, .slice P1 l1'.length q1_, l1'⟩ :: ⟨1, k38, 38, .slice A0 l0.length p0, l0⟩ :: ⟨2, k38, 38, .slice A1 l1.length p1, l1⟩ :: []) W') :
    Made w0 B gN t m r o tk tb mt rt A0 p0 l0 A1 p1 l1 fl e W' := by
  obtain ⟨P0, P1, q0_, q1_, he, hE⟩ := h
  exact ⟨_, _, _, _, _, _, _, _, _, _, _, he, hI, hS, (hE.sub (List.Sublist.refl _) (.cons_cons _ (.cons_cons _ (List.nil_sublist _)))).back12, hE.lose1.lose1⟩
theorem made_any {x0 x1 x2 x3 : Int} {o tk tb : Int} {mt rt : Nat} (h : Env w0 (⟨gN, ncells bg ch s c, 56⟩ :: B) (⟨1, k38, 38, .slice A0 l0.length p0, l0⟩ :: ⟨2, k38, 38, .slice A1 l1.length p1, l1⟩ :: []) W) (hT : Tab w0) (hI : INV t l0 l1 fl m r bg ch s c) (hm : m ≤ 6) (hr1 : 1 ≤ r) (hr : r ≤ 6)
    (ho : fewP x0 0 3 = o) (htk : pickK x1 m r = tk) (htb : pickB x1 m r = tb) (hmt : 1 ≤ m → fewP x2 0 ((m : Int) - 1) = mt) (hrt : fewP x1 0 ((r : Int) - 1) = rt) :
    Calls Tryd.prog 35 #[.pointer (some ⟨gN, 0, none⟩), .agg #[.int .i64 t, .slice A0 l0.length p0, .slice A1 l1.length p1, .bool fl], .agg #[.int .i64 x0, .int .i64 x1, .int .i64 x2, .int .i64 x3], .int .i64 m, .int .i64 r] W (Made w0 B gN t m r o tk tb mt rt A0 p0 l0 A1 p1 l1 fl) := by
  have hl0 : l0.length ≤ 6000000000000 := by have := hI.n0; omega
  have hl1 : l1.length ≤ 6000000000000 := by have := hI.n1; omega
  have hp := picked_eq x1 m r hm hr1 hr
  have hin := pick_in x1 m r hr1
  rw [htk, htb] at hp hin
  obtain ⟨hnu, hk12⟩ := number_eq tk tb m r hm hr hin
  have hTk : (tk = 0 ∧ ∃ n : Nat, tb = n ∧ n < l0.length) ∨ (tk = 1 ∧ ∃ n : Nat, tb = n ∧ n < l1.length) := by rw [hI.n0, hI.n1]; exact hin
  have hfo := few_eq x0 0 3 (by omega) (by omega) (by omega)
  have hoi := fewP_in x0 0 3 (by omega)
  rw [ho] at hfo hoi
  have hsm := hI.small hm hr
  by_cases o0 : o = 0
  · subst o0
    obtain ⟨r1, r2, r3, r4, r5, r6, r7, hb⟩ : ∃ r1 r2 r3 r4 r5 r6 r7, beginP t l0 l1 fl tk tb = (r1, r2, r3, r4, r5, r6, r7) := ⟨_, _, _, _, _, _, _, rfl⟩
    by_cases e : r7 = 0
    · subst e
      obtain ⟨e1, n, e2, hn1, hn2, hbg, hp1, hc1, hJ, x, ex0, ex1, hx1, hx0, hy3, hy1, hf⟩ := hI.begin hb
      subst e1 e2 hf
      have hfl : fl = false := (begin_form hb).2.1
      subst hfl
      have hst : stP r2 r3 tk tb = x := by
        rw [ex0, ex1]
        unfold stP
        rcases hTk with ⟨rfl, n', rfl, hn'⟩ | ⟨rfl, n', rfl, hn'⟩
        · rw [if_pos rfl, if_pos rfl, Int.toNat_natCast, rd38 _ n' (by rw [List.length_set]; exact hn'), List.getElem_set_self]
        · rw [if_neg (show ¬ (1 : Int) = 0 by decide), if_neg (show ¬ (1 : Int) = 0 by decide), Int.toNat_natCast, rd38 _ n' (by rw [List.length_set]; exact hn'), List.getElem_set_self]
      have hTk' : (tk = 0 ∧ ∃ n : Nat, tb = n ∧ n < r2.length) ∨ (tk = 1 ∧ ∃ n : Nat, tb = n ∧ n < r3.length) := by rw [hJ.n0, hJ.n1]; exact hin
      have hat := attempt_eq r1 r2 r3 false tk tb hTk'
      rw [hst, hx1] at hat
      refine (made_begin_ok h hT hl0 hl1 hp hnu hfo hb (sized_eq r1 r2 r3 false m r hJ.n0 hJ.n1) hat (by omega) hn1 hn2 hbg hp1 hc1 ⟨hsm.1, by omega⟩ rfl).mono ?_
      intro e W' q
      exact Made.of_new hJ (by rw [ex0, ex1]; exact Stays.one (by decide) hTk x hy3) q
    · refine (made_begin_err h hT hl0 hl1 hp hnu hfo hb e).mono ?_
      intro e W' q
      exact Made.of_same hI q
  by_cases o1 : o = 1
  · subst o1
    obtain ⟨r1, r2, r3, r4, r5, hb⟩ : ∃ r1 r2 r3 r4 r5, doneP t l0 l1 fl tk tb = (r1, r2, r3, r4, r5) := ⟨_, _, _, _, _, rfl⟩
    by_cases e : r5 = 0
    · subst e
      obtain ⟨e1, hf, hJ, x, ex0, ex1, hy, hx⟩ := hI.still (.inl rfl) hb
      subst e1 hf
      have hfl : fl = false := (end_form hb).2.1
      subst hfl
      refine (made_done_ok h hT hl0 hl1 hp hnu hfo hb (sized_eq r1 r2 r3 false m r hJ.n0 hJ.n1)).mono ?_
      intro e W' q
      exact Made.of_new hJ (by rw [ex0, ex1]; exact Stays.one (by decide) hTk x (by omega)) q
    · refine (made_done_err h hT hl0 hl1 hp hnu hfo hb e).mono ?_
      intro e W' q
      exact Made.of_same hI q
  by_cases o2 : o = 2
  · subst o2
    obtain ⟨r1, r2, r3, r4, r5, hb⟩ : ∃ r1 r2 r3 r4 r5, diedP t l0 l1 fl tk tb = (r1, r2, r3, r4, r5) := ⟨_, _, _, _, _, rfl⟩
    by_cases e : r5 = 0
    · subst e
      obtain ⟨hk, hfl, e1, hy, hf, ex0, ex1⟩ := end_form hb
      subst e1 hfl
      obtain ⟨n, e2, hn1, hn2, hbg, hch, hJ⟩ := hI.charge hTk (.inl hy)
      rw [← ex0, ← ex1] at hJ
      have hf' : r4 = decide ((stP l0 l1 tk tb).f2 + 1 = r1) := by rw [hf, Bool.false_or]
      rw [← hf'] at hJ
      have hat := attempt_eq r1 l0 l1 false tk tb hTk
      rw [e2] at hat
      refine (made_died_ok h hT hl0 hl1 hp hnu hfo hb (sized_eq r1 r2 r3 r4 m r hJ.n0 hJ.n1) hat (by omega) hn1 hn2 hbg hch ⟨hsm.2.2.1, by omega⟩).mono ?_
      intro e W' q
      exact Made.of_new hJ (by rw [ex0, ex1]; exact Stays.one (by decide) hTk _ (by omega)) q
    · refine (made_died_err h hT hl0 hl1 hp hnu hfo hb e).mono ?_
      intro e W' q
      exact Made.of_same hI q
  have o3 : o = 3 := by omega
  subst o3
  by_cases hm0 : m = 0
  · refine (made_blame_none h hT hl0 hl1 hp hnu hfo (by simp; omega)).mono ?_
    intro e W' q
    exact Made.of_same hI q
  have hm1 : 1 ≤ m := by omega
  have hfm := few_eq x2 0 ((m : Int) - 1) (by omega) (by omega) (by omega)
  have hfr := few_eq x1 0 ((r : Int) - 1) (by omega) (by omega) (by omega)
  have hfx := few_eq x3 1 4 (by omega) (by omega) (by omega)
  have hmi := fewP_in x2 0 ((m : Int) - 1) (by omega)
  have hxi := fewP_in x3 1 4 (by omega)
  rw [hmt hm1] at hfm hmi
  rw [hrt] at hfr
  obtain ⟨n, hn⟩ : ∃ n : Nat, fewP x3 1 4 = n := ⟨(fewP x3 1 4).toNat, by omega⟩
  rw [hn] at hfx hxi
  obtain ⟨r1, r2, r3, r4, r5, r6, hb⟩ : ∃ r1 r2 r3 r4 r5 r6, blameP t l0 l1 fl rt mt n = (r1, r2, r3, r4, r5, r6) := ⟨_, _, _, _, _, _, rfl⟩
  by_cases e : r6 = 0
  · subst e
    obtain ⟨e1, hS, hf, hg⟩ := hI.blame hb tk tb
    subst e1
    cases r5 with
    | false =>
      obtain ⟨e4, hJ⟩ := hf rfl
      refine (made_blame_free h hT hl0 hl1 hp hnu hfo hm1 hm hr1 hr hfm hfr hfx hb (sized_eq r1 r2 r3 r4 m r hJ.n0 hJ.n1)).mono ?_
      intro e W' q
      exact Made.of_new hJ hS q
    | true =>
      obtain ⟨n', e2, hn1, hn2, hbg, hch, hJ⟩ := hg rfl
      obtain rfl : n = n' := by omega
      refine (made_blame_charge h hT hl0 hl1 hp hnu hfo hm1 hm hr1 hr hfm hfr hfx hb (sized_eq r1 r2 r3 r4 m r hJ.n0 hJ.n1) (by omega) hn1 hn2 hbg hch ⟨hsm.2.2.1, by omega⟩).mono ?_
      intro e W' q
      exact Made.of_new hJ hS q
  · have h5 : r5 = false := by
      unfold blameP chargeP at hb
      repeat' split at hb
      all_goals simp only [Prod.mk.injEq] at hb
      all_goals first | exact hb.2.2.2.2.1.symm | exact absurd hb.2.2.2.2.2.symm e
    refine (made_blame_err h hT hl0 hl1 hp hnu hfo hm1 hm hr1 hr hfm hfr hfx hb e h5).mono ?_
    intro e W' q
    exact Made.of_same hI q
end
end Go.Proofs.YtponmfnegdlppaaDoor.P

end
section
-- Written by a program of this session (wip/tools/hprint.py, over the kit's printer), not by hand. Lean checks it.
namespace Go.Proofs.YtponmfnegdlppaaDoor.P
open Go.RowKit Go.Proofs.YtponmfnegdlppaaDoorW.PrintWords Go.Proofs.YtponmfnegdlppaaDoorW.PrintLast Go.Proofs.YtponmfnegdlppaaDoorW.PrintMore
attribute [local go_sem] max2_int min2_int max_two min_two max_three min_three max_four min_four
set_option linter.unusedVariables false
set_option linter.unusedSimpArgs false

/-! ### ledger_New: function 33 -/
def ledger_New.f (a0 : Int) (a1 : Int) (a2 : Int) : Option (Int × (List (S38)) × (List (S38)) × Bool × Int) := if a0 < 0 then (some (0, ([] : List (S38)), ([] : List (S38)), false, 3)) else (if a0 > 256 then (some (0, ([] : List (S38)), ([] : List (S38)), false, 3)) else (if a1 < 1 then (some (0, ([] : List (S38)), ([] : List (S38)), false, 3)) else (if a1 > 65535 then (some (0, ([] : List (S38)), ([] : List (S38)), false, 3)) else (if a2 < 1 then (some (0, ([] : List (S38)), ([] : List (S38)), false, 3)) else (if a2 > 16 then (some (0, ([] : List (S38)), ([] : List (S38)), false, 3)) else (if 0 ≤ a0 then (if (a0 : Int).toNat ≤ 11728124029610 then (if 0 ≤ a1 then (if (a1 : Int).toNat ≤ 11728124029610 then (some (a2, (List.replicate (a0 : Int).toNat z38), (List.replicate (a1 : Int).toNat z38), false, 0)) else (none)) else (none)) else (none)) else (none)))))))
def ledger_New.T3 : Bool × List (List Nat × List Nat) := (true, [([], []), ([], []), ([1, 1], [1]), ([], []), ([3, 3], [3]), ([0, 2, 4], [0, 2, 4]), ([5, 0, 1, 2, 3, 4, 5], [5]), ([6, 0, 1, 2, 3, 4, 5, 6], [])])
def ledger_New.B3 : List Nat := [0, 0, 2, 0, 8, 31, 63, 127]
theorem ledger_New.tab3 : rtab .any (opsOf Tryd.f33 3) = ledger_New.T3 := by kernel_rfl
theorem ledger_New.bits3 : waitsOk ledger_New.T3.2 ledger_New.B3 = true := by kernel_rfl
set_option maxHeartbeats 8000000 in
set_option maxRecDepth 100000 in
theorem ledger_New.calls (a0 : Int) (a1 : Int) (a2 : Int) (r1 : Int) (r2 : List (S38)) (r3 : List (S38)) (r4 : Bool) (r5 : Int) (w : World) (h : ledger_New.f a0 a1 a2 = some (r1, r2, r3, r4, r5)) :
    Calls Tryd.prog 33 #[.int .i64 a0, .int .i64 a1, .int .i64 a2] w fun e w' => ∃ v1_ v2_ : Value, e = .returned (.tuple #[.agg #[.int .i64 r1, v1_, v2_, .bool r4], .int .i64 r5]) ∧ Kd.R k38 38 w' w.heap.size (fun k_ => some k_ ≠ (v2_ : Value).ownBlock) v1_ r2 ∧ Kd.R k38 38 w' w.heap.size (fun k_ => some k_ ≠ (v1_ : Value).ownBlock) v2_ r3 ∧ Below w.heap.size w w' := by
  have hu24 := Tryd.underlying24
  have HB := Aside0.mk (Below.refl w.heap.size w)
  have H : (if a0 < 0 then (some (0, ([] : List (S38)), ([] : List (S38)), false, 3)) else (if a0 > 256 then (some (0, ([] : List (S38)), ([] : List (S38)), false, 3)) else (if a1 < 1 then (some (0, ([] : List (S38)), ([] : List (S38)), false, 3)) else (if a1 > 65535 then (some (0, ([] : List (S38)), ([] : List (S38)), false, 3)) else (if a2 < 1 then (some (0, ([] : List (S38)), ([] : List (S38)), false, 3)) else (if a2 > 16 then (some (0, ([] : List (S38)), ([] : List (S38)), false, 3)) else (if 0 ≤ a0 then (if (a0 : Int).toNat ≤ 11728124029610 then (if 0 ≤ a1 then (if (a1 : Int).toNat ≤ 11728124029610 then (some (a2, (List.replicate (a0 : Int).toNat z38), (List.replicate (a1 : Int).toNat z38), false, 0)) else (none)) else (none)) else (none)) else (none)))))))) = some (r1, r2, r3, r4, r5) := h
  clear h
  by_cases c4 : a0 < 0
  · rw [if_pos c4] at H
    have c4b0 : decide (a0 < 0) = true := decide_eq_true c4
    clear c4
    simp only [Option.some.injEq, Prod.mk.injEq] at H
    obtain ⟨rfl, rfl, rfl, rfl, rfl⟩ := H
    go_enter Tryd.func33, Tryd.ntmps33
    go_wp2_with (first | ((with_reducible refine gate_dst (N := 6) rfl ?_); refine box_event ?hg (N := 6) ?hd (cs := #[.int .i64 0, .slice none 0 0, .slice none 0 0, .bool false]) (t := 24) ?hr ?_; (case hd => rfl); (case hg => rfl); (case hr => first | (go_simp; done) | (go_simp; rfl)); intro gb358 hg w5 hbox hb; have n0_ := Aside0.mk (below_step (by repeat (first | (with_reducible first | exact HB.out | apply below_alloc | apply pw_below_drewN | apply below_drew1) | exact HB.out)) hb); have n1_ := Aside0.mk (hbox); have n2_ := Aside0.mk ((by rw [hg]; exact (below_size (by repeat (first | (with_reducible first | exact HB.out | apply below_alloc | apply pw_below_drewN | apply below_drew1) | exact HB.out))) : w.heap.size ≤ gb358)); have n3_ := Aside0.mk ((by rw [hg]; exact (below_size (by repeat (first | (with_reducible first | exact HB.out | apply below_alloc | apply pw_below_drewN | apply below_drew1) | exact HB.out))) : w.heap.size ≤ gb358)); clear HB; have HB := n0_; have BK358 := n1_; have GW358 := n2_; have GE358 := n3_; clear n0_ n1_ n2_ n3_; clear hb hbox hg; have hcz6_0 : w5.cell? ⟨gb358, 0, none⟩ = some (.int .i64 0) := (blk_cell BK358.out 0).trans rfl; have hcz6_1 : w5.cell? ⟨gb358, 1, none⟩ = some (.slice none 0 0) := (blk_cell BK358.out 1).trans rfl; have hcz6_2 : w5.cell? ⟨gb358, 2, none⟩ = some (.slice none 0 0) := (blk_cell BK358.out 2).trans rfl; have hcz6_3 : w5.cell? ⟨gb358, 3, none⟩ = some (.bool false) := (blk_cell BK358.out 3).trans rfl; have hfz6_0 := blk_frozen BK358.out 0; have hfz6_1 := blk_frozen BK358.out 1; have hfz6_2 := blk_frozen BK358.out 2; have hfz6_3 := blk_frozen BK358.out 3))
    refine bodyPost_ret (results_ct rfl _ _ gb358 24 #[.int .i64 0, .slice none 0 0, .slice none 0 0, .bool false] (0, 0) _ rfl (by (with_reducible repeat (first | refine blk_drewN ?_ _ | refine blk_drew ?_ | refine blk_alloc ?_ _)); refine blk_put (cs := #[.int .i64 0, .slice none 0 0, .slice none 0 0, .bool false]) ?_ 3 _ rfl; (with_reducible repeat (first | refine blk_drewN ?_ _ | refine blk_drew ?_ | refine blk_alloc ?_ _)); refine blk_put (cs := #[.int .i64 0, .slice none 0 0, .slice none 0 0, .bool false]) ?_ 2 _ rfl; (with_reducible repeat (first | refine blk_drewN ?_ _ | refine blk_drew ?_ | refine blk_alloc ?_ _)); refine blk_put (cs := #[.int .i64 0, .slice none 0 0, .slice none 0 0, .bool false]) ?_ 1 _ rfl; (with_reducible repeat (first | refine blk_drewN ?_ _ | refine blk_drew ?_ | refine blk_alloc ?_ _)); refine blk_put (cs := #[.int .i64 0, .slice none 0 0, .slice none 0 0, .bool false]) ?_ 0 _ rfl; (with_reducible repeat (first | refine blk_drewN ?_ _ | refine blk_drew ?_ | refine blk_alloc ?_ _)); exact BK358.out) Tryd.underlying24 rfl (by kernel_rfl)) rfl ?_
    exact ⟨_, _, by first | rfl | (simp [errW_none, errW_some] <;> rfl) | (simp [*, errW_none, errW_some] <;> rfl), by first | exact Kd.R_nil _ _ _ _ _ | exact Kd.N_nil _ _ _ _ _ | exact Kd.V_nil _ _ _ _ _ | exact Kd.Q_nil _ _ _ _ _ | exact Kd.S_nil _ _ _ _ _, by first | exact Kd.R_nil _ _ _ _ _ | exact Kd.N_nil _ _ _ _ _ | exact Kd.V_nil _ _ _ _ _ | exact Kd.Q_nil _ _ _ _ _ | exact Kd.S_nil _ _ _ _ _, by repeat (first | (with_reducible first | exact HB.out | apply below_alloc | apply pw_below_drewN | apply below_drew1 | refine below_set ?_ GE358.out) | exact HB.out)⟩
  · rw [if_neg c4] at H
    have c4b0 : decide (a0 < 0) = false := decide_eq_false c4
    clear c4
    by_cases c7 : a0 > 256
    · rw [if_pos c7] at H
      have c7b0 : decide (256 < a0) = true := decide_eq_true c7
      clear c7
      simp only [Option.some.injEq, Prod.mk.injEq] at H
      obtain ⟨rfl, rfl, rfl, rfl, rfl⟩ := H
      go_enter Tryd.func33, Tryd.ntmps33
      go_wp2_with (first | ((with_reducible refine gate_dst (N := 6) rfl ?_); refine box_event ?hg (N := 6) ?hd (cs := #[.int .i64 0, .slice none 0 0, .slice none 0 0, .bool false]) (t := 24) ?hr ?_; (case hd => rfl); (case hg => rfl); (case hr => first | (go_simp; done) | (go_simp; rfl)); intro gb358 hg w8 hbox hb; have n0_ := Aside0.mk (below_step (by repeat (first | (with_reducible first | exact HB.out | apply below_alloc | apply pw_below_drewN | apply below_drew1) | exact HB.out)) hb); have n1_ := Aside0.mk (hbox); have n2_ := Aside0.mk ((by rw [hg]; exact (below_size (by repeat (first | (with_reducible first | exact HB.out | apply below_alloc | apply pw_below_drewN | apply below_drew1) | exact HB.out))) : w.heap.size ≤ gb358)); have n3_ := Aside0.mk ((by rw [hg]; exact (below_size (by repeat (first | (with_reducible first | exact HB.out | apply below_alloc | apply pw_below_drewN | apply below_drew1) | exact HB.out))) : w.heap.size ≤ gb358)); clear HB; have HB := n0_; have BK358 := n1_; have GW358 := n2_; have GE358 := n3_; clear n0_ n1_ n2_ n3_; clear hb hbox hg; have hcz9_0 : w8.cell? ⟨gb358, 0, none⟩ = some (.int .i64 0) := (blk_cell BK358.out 0).trans rfl; have hcz9_1 : w8.cell? ⟨gb358, 1, none⟩ = some (.slice none 0 0) := (blk_cell BK358.out 1).trans rfl; have hcz9_2 : w8.cell? ⟨gb358, 2, none⟩ = some (.slice none 0 0) := (blk_cell BK358.out 2).trans rfl; have hcz9_3 : w8.cell? ⟨gb358, 3, none⟩ = some (.bool false) := (blk_cell BK358.out 3).trans rfl; have hfz9_0 := blk_frozen BK358.out 0; have hfz9_1 := blk_frozen BK358.out 1; have hfz9_2 := blk_frozen BK358.out 2; have hfz9_3 := blk_frozen BK358.out 3))
      refine bodyPost_ret (results_ct rfl _ _ gb358 24 #[.int .i64 0, .slice none 0 0, .slice none 0 0, .bool false] (0, 0) _ rfl (by (with_reducible repeat (first | refine blk_drewN ?_ _ | refine blk_drew ?_ | refine blk_alloc ?_ _)); refine blk_put (cs := #[.int .i64 0, .slice none 0 0, .slice none 0 0, .bool false]) ?_ 3 _ rfl; (with_reducible repeat (first | refine blk_drewN ?_ _ | refine blk_drew ?_ | refine blk_alloc ?_ _)); refine blk_put (cs := #[.int .i64 0, .slice none 0 0, .slice none 0 0, .bool false]) ?_ 2 _ rfl; (with_reducible repeat (first | refine blk_drewN ?_ _ | refine blk_drew ?_ | refine blk_alloc ?_ _)); refine blk_put (cs := #[.int .i64 0, .slice none 0 0, .slice none 0 0, .bool false]) ?_ 1 _ rfl; (with_reducible repeat (first | refine blk_drewN ?_ _ | refine blk_drew ?_ | refine blk_alloc ?_ _)); refine blk_put (cs := #[.int .i64 0, .slice none 0 0, .slice none 0 0, .bool false]) ?_ 0 _ rfl; (with_reducible repeat (first | refine blk_drewN ?_ _ | refine blk_drew ?_ | refine blk_alloc ?_ _)); exact BK358.out) Tryd.underlying24 rfl (by kernel_rfl)) rfl ?_
      exact ⟨_, _, by first | rfl | (simp [errW_none, errW_some] <;> rfl) | (simp [*, errW_none, errW_some] <;> rfl), by first | exact Kd.R_nil _ _ _ _ _ | exact Kd.N_nil _ _ _ _ _ | exact Kd.V_nil _ _ _ _ _ | exact Kd.Q_nil _ _ _ _ _ | exact Kd.S_nil _ _ _ _ _, by first | exact Kd.R_nil _ _ _ _ _ | exact Kd.N_nil _ _ _ _ _ | exact Kd.V_nil _ _ _ _ _ | exact Kd.Q_nil _ _ _ _ _ | exact Kd.S_nil _ _ _ _ _, by repeat (first | (with_reducible first | exact HB.out | apply below_alloc | apply pw_below_drewN | apply below_drew1 | refine below_set ?_ GE358.out) | exact HB.out)⟩
    · rw [if_neg c7] at H
      have c7b0 : decide (256 < a0) = false := decide_eq_false c7
      clear c7
      by_cases c10 : a1 < 1
      · rw [if_pos c10] at H
        have c10b0 : decide (a1 < 1) = true := decide_eq_true c10
        clear c10
        simp only [Option.some.injEq, Prod.mk.injEq] at H
        obtain ⟨rfl, rfl, rfl, rfl, rfl⟩ := H
        go_enter Tryd.func33, Tryd.ntmps33
        go_wp2_with (first | ((with_reducible refine gate_dst (N := 6) rfl ?_); refine box_event ?hg (N := 6) ?hd (cs := #[.int .i64 0, .slice none 0 0, .slice none 0 0, .bool false]) (t := 24) ?hr ?_; (case hd => rfl); (case hg => rfl); (case hr => first | (go_simp; done) | (go_simp; rfl)); intro gb358 hg w11 hbox hb; have n0_ := Aside0.mk (below_step (by repeat (first | (with_reducible first | exact HB.out | apply below_alloc | apply pw_below_drewN | apply below_drew1) | exact HB.out)) hb); have n1_ := Aside0.mk (hbox); have n2_ := Aside0.mk ((by rw [hg]; exact (below_size (by repeat (first | (with_reducible first | exact HB.out | apply below_alloc | apply pw_below_drewN | apply below_drew1) | exact HB.out))) : w.heap.size ≤ gb358)); have n3_ := Aside0.mk ((by rw [hg]; exact (below_size (by repeat (first | (with_reducible first | exact HB.out | apply below_alloc | apply pw_below_drewN | apply below_drew1) | exact HB.out))) : w.heap.size ≤ gb358)); clear HB; have HB := n0_; have BK358 := n1_; have GW358 := n2_; have GE358 := n3_; clear n0_ n1_ n2_ n3_; clear hb hbox hg; have hcz12_0 : w11.cell? ⟨gb358, 0, none⟩ = some (.int .i64 0) := (blk_cell BK358.out 0).trans rfl; have hcz12_1 : w11.cell? ⟨gb358, 1, none⟩ = some (.slice none 0 0) := (blk_cell BK358.out 1).trans rfl; have hcz12_2 : w11.cell? ⟨gb358, 2, none⟩ = some (.slice none 0 0) := (blk_cell BK358.out 2).trans rfl; have hcz12_3 : w11.cell? ⟨gb358, 3, none⟩ = some (.bool false) := (blk_cell BK358.out 3).trans rfl; have hfz12_0 := blk_frozen BK358.out 0; have hfz12_1 := blk_frozen BK358.out 1; have hfz12_2 := blk_frozen BK358.out 2; have hfz12_3 := blk_frozen BK358.out 3))
        refine bodyPost_ret (results_ct rfl _ _ gb358 24 #[.int .i64 0, .slice none 0 0, .slice none 0 0, .bool false] (0, 0) _ rfl (by (with_reducible repeat (first | refine blk_drewN ?_ _ | refine blk_drew ?_ | refine blk_alloc ?_ _)); refine blk_put (cs := #[.int .i64 0, .slice none 0 0, .slice none 0 0, .bool false]) ?_ 3 _ rfl; (with_reducible repeat (first | refine blk_drewN ?_ _ | refine blk_drew ?_ | refine blk_alloc ?_ _)); refine blk_put (cs := #[.int .i64 0, .slice none 0 0, .slice none 0 0, .bool false]) ?_ 2 _ rfl; (with_reducible repeat (first | refine blk_drewN ?_ _ | refine blk_drew ?_ | refine blk_alloc ?_ _)); refine blk_put (cs := #[.int .i64 0, .slice none 0 0, .slice none 0 0, .bool false]) ?_ 1 _ rfl; (with_reducible repeat (first | refine blk_drewN ?_ _ | refine blk_drew ?_ | refine blk_alloc ?_ _)); refine blk_put (cs := #[.int .i64 0, .slice none 0 0, .slice none 0 0, .bool false]) ?_ 0 _ rfl; (with_reducible repeat (first | refine blk_drewN ?_ _ | refine blk_drew ?_ | refine blk_alloc ?_ _)); exact BK358.out) Tryd.underlying24 rfl (by kernel_rfl)) rfl ?_
        exact ⟨_, _, by first | rfl | (simp [errW_none, errW_some] <;> rfl) | (simp [*, errW_none, errW_some] <;> rfl), by first | exact Kd.R_nil _ _ _ _ _ | exact Kd.N_nil _ _ _ _ _ | exact Kd.V_nil _ _ _ _ _ | exact Kd.Q_nil _ _ _ _ _ | exact Kd.S_nil _ _ _ _ _, by first | exact Kd.R_nil _ _ _ _ _ | exact Kd.N_nil _ _ _ _ _ | exact Kd.V_nil _ _ _ _ _ | exact Kd.Q_nil _ _ _ _ _ | exact Kd.S_nil _ _ _ _ _, by repeat (first | (with_reducible first | exact HB.out | apply below_alloc | apply pw_below_drewN | apply below_drew1 | refine below_set ?_ GE358.out) | exact HB.out)⟩
      · rw [if_neg c10] at H
        have c10b0 : decide (a1 < 1) = false := decide_eq_false c10
        clear c10
        by_cases c13 : a1 > 65535
        · rw [if_pos c13] at H
          have c13b0 : decide (65535 < a1) = true := decide_eq_true c13
          clear c13
          simp only [Option.some.injEq, Prod.mk.injEq] at H
          obtain ⟨rfl, rfl, rfl, rfl, rfl⟩ := H
          go_enter Tryd.func33, Tryd.ntmps33
          go_wp2_with (first | ((with_reducible refine gate_dst (N := 6) rfl ?_); refine box_event ?hg (N := 6) ?hd (cs := #[.int .i64 0, .slice none 0 0, .slice none 0 0, .bool false]) (t := 24) ?hr ?_; (case hd => rfl); (case hg => rfl); (case hr => first | (go_simp; done) | (go_simp; rfl)); intro gb358 hg w14 hbox hb; have n0_ := Aside0.mk (below_step (by repeat (first | (with_reducible first | exact HB.out | apply below_alloc | apply pw_below_drewN | apply below_drew1) | exact HB.out)) hb); have n1_ := Aside0.mk (hbox); have n2_ := Aside0.mk ((by rw [hg]; exact (below_size (by repeat (first | (with_reducible first | exact HB.out | apply below_alloc | apply pw_below_drewN | apply below_drew1) | exact HB.out))) : w.heap.size ≤ gb358)); have n3_ := Aside0.mk ((by rw [hg]; exact (below_size (by repeat (first | (with_reducible first | exact HB.out | apply below_alloc | apply pw_below_drewN | apply below_drew1) | exact HB.out))) : w.heap.size ≤ gb358)); clear HB; have HB := n0_; have BK358 := n1_; have GW358 := n2_; have GE358 := n3_; clear n0_ n1_ n2_ n3_; clear hb hbox hg; have hcz15_0 : w14.cell? ⟨gb358, 0, none⟩ = some (.int .i64 0) := (blk_cell BK358.out 0).trans rfl; have hcz15_1 : w14.cell? ⟨gb358, 1, none⟩ = some (.slice none 0 0) := (blk_cell BK358.out 1).trans rfl; have hcz15_2 : w14.cell? ⟨gb358, 2, none⟩ = some (.slice none 0 0) := (blk_cell BK358.out 2).trans rfl; have hcz15_3 : w14.cell? ⟨gb358, 3, none⟩ = some (.bool false) := (blk_cell BK358.out 3).trans rfl; have hfz15_0 := blk_frozen BK358.out 0; have hfz15_1 := blk_frozen BK358.out 1; have hfz15_2 := blk_frozen BK358.out 2; have hfz15_3 := blk_frozen BK358.out 3))
          refine bodyPost_ret (results_ct rfl _ _ gb358 24 #[.int .i64 0, .slice none 0 0, .slice none 0 0, .bool false] (0, 0) _ rfl (by (with_reducible repeat (first | refine blk_drewN ?_ _ | refine blk_drew ?_ | refine blk_alloc ?_ _)); refine blk_put (cs := #[.int .i64 0, .slice none 0 0, .slice none 0 0, .bool false]) ?_ 3 _ rfl; (with_reducible repeat (first | refine blk_drewN ?_ _ | refine blk_drew ?_ | refine blk_alloc ?_ _)); refine blk_put (cs := #[.int .i64 0, .slice none 0 0, .slice none 0 0, .bool false]) ?_ 2 _ rfl; (with_reducible repeat (first | refine blk_drewN ?_ _ | refine blk_drew ?_ | refine blk_alloc ?_ _)); refine blk_put (cs := #[.int .i64 0, .slice none 0 0, .slice none 0 0, .bool false]) ?_ 1 _ rfl; (with_reducible repeat (first | refine blk_drewN ?_ _ | refine blk_drew ?_ | refine blk_alloc ?_ _)); refine blk_put (cs := #[.int .i64 0, .slice none 0 0, .slice none 0 0, .bool false]) ?_ 0 _ rfl; (with_reducible repeat (first | refine blk_drewN ?_ _ | refine blk_drew ?_ | refine blk_alloc ?_ _)); exact BK358.out) Tryd.underlying24 rfl (by kernel_rfl)) rfl ?_
          exact ⟨_, _, by first | rfl | (simp [errW_none, errW_some] <;> rfl) | (simp [*, errW_none, errW_some] <;> rfl), by first | exact Kd.R_nil _ _ _ _ _ | exact Kd.N_nil _ _ _ _ _ | exact Kd.V_nil _ _ _ _ _ | exact Kd.Q_nil _ _ _ _ _ | exact Kd.S_nil _ _ _ _ _, by first | exact Kd.R_nil _ _ _ _ _ | exact Kd.N_nil _ _ _ _ _ | exact Kd.V_nil _ _ _ _ _ | exact Kd.Q_nil _ _ _ _ _ | exact Kd.S_nil _ _ _ _ _, by repeat (first | (with_reducible first | exact HB.out | apply below_alloc | apply pw_below_drewN | apply below_drew1 | refine below_set ?_ GE358.out) | exact HB.out)⟩
        · rw [if_neg c13] at H
          have c13b0 : decide (65535 < a1) = false := decide_eq_false c13
          clear c13
          by_cases c16 : a2 < 1
          · rw [if_pos c16] at H
            have c16b0 : decide (a2 < 1) = true := decide_eq_true c16
            clear c16
            simp only [Option.some.injEq, Prod.mk.injEq] at H
            obtain ⟨rfl, rfl, rfl, rfl, rfl⟩ := H
            go_enter Tryd.func33, Tryd.ntmps33
            go_wp2_with (first | ((with_reducible refine gate_dst (N := 6) rfl ?_); refine box_event ?hg (N := 6) ?hd (cs := #[.int .i64 0, .slice none 0 0, .slice none 0 0, .bool false]) (t := 24) ?hr ?_; (case hd => rfl); (case hg => rfl); (case hr => first | (go_simp; done) | (go_simp; rfl)); intro gb358 hg w17 hbox hb; have n0_ := Aside0.mk (below_step (by repeat (first | (with_reducible first | exact HB.out | apply below_alloc | apply pw_below_drewN | apply below_drew1) | exact HB.out)) hb); have n1_ := Aside0.mk (hbox); have n2_ := Aside0.mk ((by rw [hg]; exact (below_size (by repeat (first | (with_reducible first | exact HB.out | apply below_alloc | apply pw_below_drewN | apply below_drew1) | exact HB.out))) : w.heap.size ≤ gb358)); have n3_ := Aside0.mk ((by rw [hg]; exact (below_size (by repeat (first | (with_reducible first | exact HB.out | apply below_alloc | apply pw_below_drewN | apply below_drew1) | exact HB.out))) : w.heap.size ≤ gb358)); clear HB; have HB := n0_; have BK358 := n1_; have GW358 := n2_; have GE358 := n3_; clear n0_ n1_ n2_ n3_; clear hb hbox hg; have hcz18_0 : w17.cell? ⟨gb358, 0, none⟩ = some (.int .i64 0) := (blk_cell BK358.out 0).trans rfl; have hcz18_1 : w17.cell? ⟨gb358, 1, none⟩ = some (.slice none 0 0) := (blk_cell BK358.out 1).trans rfl; have hcz18_2 : w17.cell? ⟨gb358, 2, none⟩ = some (.slice none 0 0) := (blk_cell BK358.out 2).trans rfl; have hcz18_3 : w17.cell? ⟨gb358, 3, none⟩ = some (.bool false) := (blk_cell BK358.out 3).trans rfl; have hfz18_0 := blk_frozen BK358.out 0; have hfz18_1 := blk_frozen BK358.out 1; have hfz18_2 := blk_frozen BK358.out 2; have hfz18_3 := blk_frozen BK358.out 3))
            refine bodyPost_ret (results_ct rfl _ _ gb358 24 #[.int .i64 0, .slice none 0 0, .slice none 0 0, .bool false] (0, 0) _ rfl (by (with_reducible repeat (first | refine blk_drewN ?_ _ | refine blk_drew ?_ | refine blk_alloc ?_ _)); refine blk_put (cs := #[.int .i64 0, .slice none 0 0, .slice none 0 0, .bool false]) ?_ 3 _ rfl; (with_reducible repeat (first | refine blk_drewN ?_ _ | refine blk_drew ?_ | refine blk_alloc ?_ _)); refine blk_put (cs := #[.int .i64 0, .slice none 0 0, .slice none 0 0, .bool false]) ?_ 2 _ rfl; (with_reducible repeat (first | refine blk_drewN ?_ _ | refine blk_drew ?_ | refine blk_alloc ?_ _)); refine blk_put (cs := #[.int .i64 0, .slice none 0 0, .slice none 0 0, .bool false]) ?_ 1 _ rfl; (with_reducible repeat (first | refine blk_drewN ?_ _ | refine blk_drew ?_ | refine blk_alloc ?_ _)); refine blk_put (cs := #[.int .i64 0, .slice none 0 0, .slice none 0 0, .bool false]) ?_ 0 _ rfl; (with_reducible repeat (first | refine blk_drewN ?_ _ | refine blk_drew ?_ | refine blk_alloc ?_ _)); exact BK358.out) Tryd.underlying24 rfl (by kernel_rfl)) rfl ?_
            exact ⟨_, _, by first | rfl | (simp [errW_none, errW_some] <;> rfl) | (simp [*, errW_none, errW_some] <;> rfl), by first | exact Kd.R_nil _ _ _ _ _ | exact Kd.N_nil _ _ _ _ _ | exact Kd.V_nil _ _ _ _ _ | exact Kd.Q_nil _ _ _ _ _ | exact Kd.S_nil _ _ _ _ _, by first | exact Kd.R_nil _ _ _ _ _ | exact Kd.N_nil _ _ _ _ _ | exact Kd.V_nil _ _ _ _ _ | exact Kd.Q_nil _ _ _ _ _ | exact Kd.S_nil _ _ _ _ _, by repeat (first | (with_reducible first | exact HB.out | apply below_alloc | apply pw_below_drewN | apply below_drew1 | refine below_set ?_ GE358.out) | exact HB.out)⟩
          · rw [if_neg c16] at H
            have c16b0 : decide (a2 < 1) = false := decide_eq_false c16
            clear c16
            by_cases c19 : a2 > 16
            · rw [if_pos c19] at H
              have c19b0 : decide (16 < a2) = true := decide_eq_true c19
              clear c19
              simp only [Option.some.injEq, Prod.mk.injEq] at H
              obtain ⟨rfl, rfl, rfl, rfl, rfl⟩ := H
              go_enter Tryd.func33, Tryd.ntmps33
              go_wp2_with (first | ((with_reducible refine gate_dst (N := 6) rfl ?_); refine box_event ?hg (N := 6) ?hd (cs := #[.int .i64 0, .slice none 0 0, .slice none 0 0, .bool false]) (t := 24) ?hr ?_; (case hd => rfl); (case hg => rfl); (case hr => first | (go_simp; done) | (go_simp; rfl)); intro gb358 hg w20 hbox hb; have n0_ := Aside0.mk (below_step (by repeat (first | (with_reducible first | exact HB.out | apply below_alloc | apply pw_below_drewN | apply below_drew1) | exact HB.out)) hb); have n1_ := Aside0.mk (hbox); have n2_ := Aside0.mk ((by rw [hg]; exact (below_size (by repeat (first | (with_reducible first | exact HB.out | apply below_alloc | apply pw_below_drewN | apply below_drew1) | exact HB.out))) : w.heap.size ≤ gb358)); have n3_ := Aside0.mk ((by rw [hg]; exact (below_size (by repeat (first | (with_reducible first | exact HB.out | apply below_alloc | apply pw_below_drewN | apply below_drew1) | exact HB.out))) : w.heap.size ≤ gb358)); clear HB; have HB := n0_; have BK358 := n1_; have GW358 := n2_; have GE358 := n3_; clear n0_ n1_ n2_ n3_; clear hb hbox hg; have hcz21_0 : w20.cell? ⟨gb358, 0, none⟩ = some (.int .i64 0) := (blk_cell BK358.out 0).trans rfl; have hcz21_1 : w20.cell? ⟨gb358, 1, none⟩ = some (.slice none 0 0) := (blk_cell BK358.out 1).trans rfl; have hcz21_2 : w20.cell? ⟨gb358, 2, none⟩ = some (.slice none 0 0) := (blk_cell BK358.out 2).trans rfl; have hcz21_3 : w20.cell? ⟨gb358, 3, none⟩ = some (.bool false) := (blk_cell BK358.out 3).trans rfl; have hfz21_0 := blk_frozen BK358.out 0; have hfz21_1 := blk_frozen BK358.out 1; have hfz21_2 := blk_frozen BK358.out 2; have hfz21_3 := blk_frozen BK358.out 3))
              refine bodyPost_ret (results_ct rfl _ _ gb358 24 #[.int .i64 0, .slice none 0 0, .slice none 0 0, .bool false] (0, 0) _ rfl (by (with_reducible repeat (first | refine blk_drewN ?_ _ | refine blk_drew ?_ | refine blk_alloc ?_ _)); refine blk_put (cs := #[.int .i64 0, .slice none 0 0, .slice none 0 0, .bool false]) ?_ 3 _ rfl; (with_reducible repeat (first | refine blk_drewN ?_ _ | refine blk_drew ?_ | refine blk_alloc ?_ _)); refine blk_put (cs := #[.int .i64 0, .slice none 0 0, .slice none 0 0, .bool false]) ?_ 2 _ rfl; (with_reducible repeat (first | refine blk_drewN ?_ _ | refine blk_drew ?_ | refine blk_alloc ?_ _)); refine blk_put (cs := #[.int .i64 0, .slice none 0 0, .slice none 0 0, .bool false]) ?_ 1 _ rfl; (with_reducible repeat (first | refine blk_drewN ?_ _ | refine blk_drew ?_ | refine blk_alloc ?_ _)); refine blk_put (cs := #[.int .i64 0, .slice none 0 0, .slice none 0 0, .bool false]) ?_ 0 _ rfl; (with_reducible repeat (first | refine blk_drewN ?_ _ | refine blk_drew ?_ | refine blk_alloc ?_ _)); exact BK358.out) Tryd.underlying24 rfl (by kernel_rfl)) rfl ?_
              exact ⟨_, _, by first | rfl | (simp [errW_none, errW_some] <;> rfl) | (simp [*, errW_none, errW_some] <;> rfl), by first | exact Kd.R_nil _ _ _ _ _ | exact Kd.N_nil _ _ _ _ _ | exact Kd.V_nil _ _ _ _ _ | exact Kd.Q_nil _ _ _ _ _ | exact Kd.S_nil _ _ _ _ _, by first | exact Kd.R_nil _ _ _ _ _ | exact Kd.N_nil _ _ _ _ _ | exact Kd.V_nil _ _ _ _ _ | exact Kd.Q_nil _ _ _ _ _ | exact Kd.S_nil _ _ _ _ _, by repeat (first | (with_reducible first | exact HB.out | apply below_alloc | apply pw_below_drewN | apply below_drew1 | refine below_set ?_ GE358.out) | exact HB.out)⟩
            · rw [if_neg c19] at H
              have c19b0 : decide (16 < a2) = false := decide_eq_false c19
              clear c19
              by_cases c22 : 0 ≤ a0
              · rw [if_pos c22] at H
                have c22b0 := eq_true c22
                have c22b1 : decide (0 ≤ a0) = true := decide_eq_true c22
                clear c22
                by_cases c23 : (a0 : Int).toNat ≤ 11728124029610
                · rw [if_pos c23] at H
                  have c23b0 := eq_true c23
                  have c23b1 : decide ((a0 : Int).toNat ≤ 11728124029610) = true := decide_eq_true c23
                  clear c23
                  obtain ⟨y359, hy359⟩ : ∃ y_ : List (S38), y_ = (List.replicate (a0 : Int).toNat z38) := ⟨_, rfl⟩
                  replace H : (if 0 ≤ a1 then (if (a1 : Int).toNat ≤ 11728124029610 then (some (a2, y359, (List.replicate (a1 : Int).toNat z38), false, 0)) else (none)) else (none)) = some (r1, r2, r3, r4, r5) := by first | (rw [hy359]; with_reducible exact H) | (have H2_ := (Option.bind_some _ _).symm.trans H; rw [hy359]; with_reducible exact H2_) | (have H2_ := (Option.bind_some _ _).symm.trans H; with_reducible exact H2_) | with_reducible exact H | (rw [hy359]; exact H) | exact H
                  have Ny359 := Aside0.mk hy359
                  clear hy359
                  by_cases c24 : 0 ≤ a1
                  · rw [if_pos c24] at H
                    have c24b0 := eq_true c24
                    have c24b1 : decide (0 ≤ a1) = true := decide_eq_true c24
                    clear c24
                    by_cases c25 : (a1 : Int).toNat ≤ 11728124029610
                    · rw [if_pos c25] at H
                      have c25b0 := eq_true c25
                      have c25b1 : decide ((a1 : Int).toNat ≤ 11728124029610) = true := decide_eq_true c25
                      clear c25
                      obtain ⟨y362, hy362⟩ : ∃ y_ : List (S38), y_ = (List.replicate (a1 : Int).toNat z38) := ⟨_, rfl⟩
                      replace H : (some (a2, y359, y362, false, 0)) = some (r1, r2, r3, r4, r5) := by first | (rw [hy362]; with_reducible exact H) | (have H2_ := (Option.bind_some _ _).symm.trans H; rw [hy362]; with_reducible exact H2_) | (have H2_ := (Option.bind_some _ _).symm.trans H; with_reducible exact H2_) | with_reducible exact H | (rw [hy362]; exact H) | exact H
                      have Ny362 := Aside0.mk hy362
                      clear hy362
                      simp only [Option.some.injEq, Prod.mk.injEq] at H
                      obtain ⟨rfl, rfl, rfl, rfl, rfl⟩ := H
                      go_enter Tryd.func33, Tryd.ntmps33
                      try go_wp2_with (first | ((with_reducible refine gate_dst (N := 6) rfl ?_); refine box_event ?hg (N := 6) ?hd (cs := #[.int .i64 0, .slice none 0 0, .slice none 0 0, .bool false]) (t := 24) ?hr ?_; (case hd => rfl); (case hg => rfl); (case hr => first | (go_simp; done) | (go_simp; rfl)); intro gb358 hg w26 hbox hb; have n0_ := Aside0.mk (below_step (by repeat (first | (with_reducible first | exact HB.out | apply below_alloc | apply pw_below_drewN | apply below_drew1) | exact HB.out)) hb); have n1_ := Aside0.mk (hbox); have n2_ := Aside0.mk ((by rw [hg]; exact (below_size (by repeat (first | (with_reducible first | exact HB.out | apply below_alloc | apply pw_below_drewN | apply below_drew1) | exact HB.out))) : w.heap.size ≤ gb358)); have n3_ := Aside0.mk ((by rw [hg]; exact (below_size (by repeat (first | (with_reducible first | exact HB.out | apply below_alloc | apply pw_below_drewN | apply below_drew1) | exact HB.out))) : w.heap.size ≤ gb358)); clear HB; have HB := n0_; have BK358 := n1_; have GW358 := n2_; have GE358 := n3_; clear n0_ n1_ n2_ n3_; clear hb hbox hg))
                      have n0_ := Aside0.mk (blk_drew BK358.out)
                      have n1_ := Aside0.mk (below_drew1 HB.out)
                      clear BK358
                      clear HB
                      have BK358 := n0_
                      have HB := n1_
                      clear n0_ n1_
                      refine start_ (n := 8) (S := fun w' => True) (ds := []) #[false, false, false, false, false, false, false, false] (by kernel_rfl) rfl rfl trivial (fun hHeld => ?_); refine with_tabW ledger_New.tab3 ledger_New.bits3 (fun HT_ HW_ => ?_)
                      generalize w26.drew = w27 at BK358 HB hHeld ⊢
                      refine pure_ (i := 0) (N := some 31) (v := ?_) (a' := ?_) #[true, false, false, false, false, false, false, false] rfl rfl (any_of HT_.out (by kernel_rfl)) (fun _ _ _ h => h) (Or.inl ⟨by rfl, ?_⟩) ?_ ?_
                      rotate_left
                      · intro w'
                        go_simp
                        with_reducible rfl
                      rotate_left
                      · simp only [Act.put, List.setIfInBounds_toArray, List.set_cons_zero, List.set_cons_succ, i64_w, i32_w]
                        rfl
                      refine pure_ (i := 1) (N := some 32) (v := ?_) (a' := ?_) #[true, true, false, false, false, false, false, false] rfl rfl (any_of HT_.out (by kernel_rfl)) (fun _ _ _ h => h) (Or.inl ⟨by rfl, ?_⟩) ?_ ?_
                      rotate_left
                      · intro w'
                        go_simp
                        with_reducible rfl
                      rotate_left
                      · simp only [Act.put, List.setIfInBounds_toArray, List.set_cons_zero, List.set_cons_succ, i64_w, i32_w]
                        rfl
                      refine pure_ (i := 3) (N := some 34) (v := ?_) (a' := ?_) #[true, true, false, true, false, false, false, false] rfl rfl (any_of HT_.out (by kernel_rfl)) (fun _ _ _ h => h) (Or.inl ⟨by rfl, ?_⟩) ?_ ?_
                      rotate_left
                      · intro w'
                        go_simp
                        with_reducible rfl
                      rotate_left
                      · simp only [Act.put, List.setIfInBounds_toArray, List.set_cons_zero, List.set_cons_succ, i64_w, i32_w]
                        rfl
                      refine join_ (σ := Value × Value) 3 #[true, true, true, true, true, false, false, false] (fun s_ => [(33, s_.1), (35, s_.2)]) (fun s_ w' => (Kd.R k38 38 w' w.heap.size (fun k_ => some k_ ≠ (s_.2 : Value).ownBlock) s_.1 y359) ∧ (Kd.R k38 38 w' w.heap.size (fun k_ => some k_ ≠ (s_.1 : Value).ownBlock) s_.2 y362) ∧ (w'.heap[gb358]? = some (.cells #[.int .i64 0, .slice none 0 0, .slice none 0 0, .bool false] 24 (0, 0))) ∧ (Below w.heap.size w w')) ?_ ?_
                      rotate_left
                      · intro hCont
                        refine two_ (i := 2) (j := 4) (Ni := some 33) (Nj := some 35) #[true, true, true, true, false, false, false, false] #[true, true, false, true, true, false, false, false] rfl rfl rfl rfl (two_of HT_.out (by kernel_rfl)) (by decide) (by decide) (fun K hK => ?_) (fun K hK => ?_)
                        · skip
                          refine Kd.R_make_step k38 _ 38 (by rfl) (N := 33) rfl 22 _ _ rfl a0 rfl rfl Tryd.underlying22 (.agg #[(.int .i64 0), (.int .i64 0), (.int .i64 0)]) 24 info38 rfl (by decide) (by omega) z38 (ok := fun _ => True) (okp := fun _ => True) (k38_mkM _ _ _ z38 ) (fun _ hk => hk) trivial (of_decide_eq_true (by first | (with_reducible assumption) | assumption)) (Nat.le_trans (Nat.mul_le_mul_right _ (of_decide_eq_true (by first | (with_reducible assumption) | assumption) : a0.toNat ≤ 11728124029610)) (by omega)) (Below.refl _ _) (Nat.le_refl _) ?_
                          intro v360 w28 ho29 hb hg_ hnew_
                          clear hg_ hnew_
                          (first | rw [← Ny359.out] at ho29 | (simp only [Int.reduceToNat] at ho29; rw [← Ny359.out] at ho29))
                          have n0_ := Aside0.mk (Kd.R_lower ho29 (below_size (by repeat (first | (with_reducible first | exact HB.out | apply below_alloc | apply pw_below_drewN | apply below_drew1 | refine below_set ?_ GE358.out) | exact HB.out))))
                          have n1_ := Aside0.mk (blk_below (g := gb358) (o := .cells #[.int .i64 0, .slice none 0 0, .slice none 0 0, .bool false] 24 (0, 0)) (by (with_reducible repeat (first | refine blk_drewN ?_ _ | refine blk_drew ?_ | refine blk_alloc ?_ _)); exact BK358.out) hb)
                          have n2_ := Aside0.mk (below_step (by repeat (first | (with_reducible first | exact HB.out | apply below_alloc | apply pw_below_drewN | apply below_drew1 | refine below_set ?_ GE358.out) | exact HB.out)) hb)
                          clear BK358
                          clear HB
                          have HO361 := n0_
                          have BK358 := n1_
                          have HB := n2_
                          clear n0_ n1_ n2_
                          clear hb ho29
                          refine hK.out _ _ trivial (fun hHeld => ?_)
                          clear hK K
                          refine norm_ (a' := ?_) ?_ ?_
                          rotate_left
                          · show Act.put _ (some 33) _ = _
                            simp only [Act.put, List.setIfInBounds_toArray, List.set_cons_zero, List.set_cons_succ, i64_w, i32_w]
                            rfl
                          refine one_ (i := 4) (N := some 35) #[true, true, true, true, true, false, false, false] rfl rfl (one_of HT_.out (by kernel_rfl)) (by decide) (fun K hK => ?_)
                          refine Kd.R_make_step k38 _ 38 (by rfl) (N := 35) rfl 22 _ _ rfl a1 rfl rfl Tryd.underlying22 (.agg #[(.int .i64 0), (.int .i64 0), (.int .i64 0)]) 24 info38 rfl (by decide) (by omega) z38 (ok := fun _ => True) (okp := fun _ => True) (k38_mkM _ _ _ z38 ) (fun _ hk => hk) trivial (of_decide_eq_true (by first | (with_reducible assumption) | assumption)) (Nat.le_trans (Nat.mul_le_mul_right _ (of_decide_eq_true (by first | (with_reducible assumption) | assumption) : a1.toNat ≤ 11728124029610)) (by omega)) (Below.refl _ _) (Nat.le_refl _) ?_
                          intro v363 w30 ho31 hb hg_ hnew_
                          clear hg_ hnew_
                          (first | rw [← Ny362.out] at ho31 | (simp only [Int.reduceToNat] at ho31; rw [← Ny362.out] at ho31))
                          have n0_ := Aside0.mk (Kd.R_elder' (by (with_reducible repeat (first | apply Kd.R_alloc | apply Kd.R_drewN | apply Kd.R_drew)); exact HO361.out) (Kd.R_base ho31) hb)
                          have n1_ := Aside0.mk (Kd.R_lower (Kd.R_new' ho31 (Kd.R_lt (by (with_reducible repeat (first | apply Kd.R_alloc | apply Kd.R_drewN | apply Kd.R_drew)); exact HO361.out))) (below_size (by repeat (first | (with_reducible first | exact HB.out | apply below_alloc | apply pw_below_drewN | apply below_drew1 | refine below_set ?_ GE358.out) | exact HB.out))))
                          have n2_ := Aside0.mk (blk_below (g := gb358) (o := .cells #[.int .i64 0, .slice none 0 0, .slice none 0 0, .bool false] 24 (0, 0)) (by (with_reducible repeat (first | refine blk_drewN ?_ _ | refine blk_drew ?_ | refine blk_alloc ?_ _)); exact BK358.out) hb)
                          have n3_ := Aside0.mk (below_step (by repeat (first | (with_reducible first | exact HB.out | apply below_alloc | apply pw_below_drewN | apply below_drew1 | refine below_set ?_ GE358.out) | exact HB.out)) hb)
                          clear HO361
                          clear BK358
                          clear HB
                          have HO361 := n0_
                          have HO364 := n1_
                          have BK358 := n2_
                          have HB := n3_
                          clear n0_ n1_ n2_ n3_
                          clear hb ho31
                          obtain ⟨Ao32, co32, eo32⟩ := Kd.R_slice HO364.out
                          (first | subst eo32 | (injection eo32 with f1_ f2_ f3_; have f4_ := f1_.symm; have f5_ := f3_.symm; clear f1_ f2_ f3_; subst f4_; subst f5_))
                          obtain ⟨Ao33, co33, eo33⟩ := Kd.R_slice HO361.out
                          (first | subst eo33 | (injection eo33 with f1_ f2_ f3_; have f4_ := f1_.symm; have f5_ := f3_.symm; clear f1_ f2_ f3_; subst f4_; subst f5_))
                          refine hK.out _ _ trivial (fun hHeld => ?_)
                          clear hK K
                          refine norm_ (a' := ?_) ?_ ?_
                          rotate_left
                          · show Act.put _ (some 35) _ = _
                            simp only [Act.put, List.setIfInBounds_toArray, List.set_cons_zero, List.set_cons_succ, i64_w, i32_w]
                            rfl
                          exact norm_ (by simp only [putAll, Act.put, List.setIfInBounds_toArray, List.set_cons_zero, List.set_cons_succ]) (hCont (.slice Ao33 y359.length co33, .slice Ao32 y362.length co32) _ ⟨(by (with_reducible repeat (first | apply Kd.R_alloc | apply Kd.R_drewN | apply Kd.R_drew)); exact Kd.R_mono HO361.out (fun _ hk => hk.2)), (by (with_reducible repeat (first | apply Kd.R_alloc | apply Kd.R_drewN | apply Kd.R_drew)); exact Kd.R_mono HO364.out (fun _ hk => hk.2)), (by (with_reducible repeat (first | refine blk_drewN ?_ _ | refine blk_drew ?_ | refine blk_alloc ?_ _)); exact BK358.out), (by repeat (first | (with_reducible first | exact HB.out | apply below_alloc | apply pw_below_drewN | apply below_drew1 | refine below_set ?_ GE358.out) | exact HB.out))⟩)
                        · skip
                          refine Kd.R_make_step k38 _ 38 (by rfl) (N := 35) rfl 22 _ _ rfl a1 rfl rfl Tryd.underlying22 (.agg #[(.int .i64 0), (.int .i64 0), (.int .i64 0)]) 24 info38 rfl (by decide) (by omega) z38 (ok := fun _ => True) (okp := fun _ => True) (k38_mkM _ _ _ z38 ) (fun _ hk => hk) trivial (of_decide_eq_true (by first | (with_reducible assumption) | assumption)) (Nat.le_trans (Nat.mul_le_mul_right _ (of_decide_eq_true (by first | (with_reducible assumption) | assumption) : a1.toNat ≤ 11728124029610)) (by omega)) (Below.refl _ _) (Nat.le_refl _) ?_
                          intro v363 w28 ho29 hb hg_ hnew_
                          clear hg_ hnew_
                          (first | rw [← Ny362.out] at ho29 | (simp only [Int.reduceToNat] at ho29; rw [← Ny362.out] at ho29))
                          have n0_ := Aside0.mk (Kd.R_lower ho29 (below_size (by repeat (first | (with_reducible first | exact HB.out | apply below_alloc | apply pw_below_drewN | apply below_drew1 | refine below_set ?_ GE358.out) | exact HB.out))))
                          have n1_ := Aside0.mk (blk_below (g := gb358) (o := .cells #[.int .i64 0, .slice none 0 0, .slice none 0 0, .bool false] 24 (0, 0)) (by (with_reducible repeat (first | refine blk_drewN ?_ _ | refine blk_drew ?_ | refine blk_alloc ?_ _)); exact BK358.out) hb)
                          have n2_ := Aside0.mk (below_step (by repeat (first | (with_reducible first | exact HB.out | apply below_alloc | apply pw_below_drewN | apply below_drew1 | refine below_set ?_ GE358.out) | exact HB.out)) hb)
                          clear BK358
                          clear HB
                          have HO364 := n0_
                          have BK358 := n1_
                          have HB := n2_
                          clear n0_ n1_ n2_
                          clear hb ho29
                          refine hK.out _ _ trivial (fun hHeld => ?_)
                          clear hK K
                          refine norm_ (a' := ?_) ?_ ?_
                          rotate_left
                          · show Act.put _ (some 35) _ = _
                            simp only [Act.put, List.setIfInBounds_toArray, List.set_cons_zero, List.set_cons_succ, i64_w, i32_w]
                            rfl
                          refine one_ (i := 2) (N := some 33) #[true, true, true, true, true, false, false, false] rfl rfl (one_of HT_.out (by kernel_rfl)) (by decide) (fun K hK => ?_)
                          refine Kd.R_make_step k38 _ 38 (by rfl) (N := 33) rfl 22 _ _ rfl a0 rfl rfl Tryd.underlying22 (.agg #[(.int .i64 0), (.int .i64 0), (.int .i64 0)]) 24 info38 rfl (by decide) (by omega) z38 (ok := fun _ => True) (okp := fun _ => True) (k38_mkM _ _ _ z38 ) (fun _ hk => hk) trivial (of_decide_eq_true (by first | (with_reducible assumption) | assumption)) (Nat.le_trans (Nat.mul_le_mul_right _ (of_decide_eq_true (by first | (with_reducible assumption) | assumption) : a0.toNat ≤ 11728124029610)) (by omega)) (Below.refl _ _) (Nat.le_refl _) ?_
                          intro v360 w30 ho31 hb hg_ hnew_
                          clear hg_ hnew_
                          (first | rw [← Ny359.out] at ho31 | (simp only [Int.reduceToNat] at ho31; rw [← Ny359.out] at ho31))
                          have n0_ := Aside0.mk (Kd.R_elder' (by (with_reducible repeat (first | apply Kd.R_alloc | apply Kd.R_drewN | apply Kd.R_drew)); exact HO364.out) (Kd.R_base ho31) hb)
                          have n1_ := Aside0.mk (Kd.R_lower (Kd.R_new' ho31 (Kd.R_lt (by (with_reducible repeat (first | apply Kd.R_alloc | apply Kd.R_drewN | apply Kd.R_drew)); exact HO364.out))) (below_size (by repeat (first | (with_reducible first | exact HB.out | apply below_alloc | apply pw_below_drewN | apply below_drew1 | refine below_set ?_ GE358.out) | exact HB.out))))
                          have n2_ := Aside0.mk (blk_below (g := gb358) (o := .cells #[.int .i64 0, .slice none 0 0, .slice none 0 0, .bool false] 24 (0, 0)) (by (with_reducible repeat (first | refine blk_drewN ?_ _ | refine blk_drew ?_ | refine blk_alloc ?_ _)); exact BK358.out) hb)
                          have n3_ := Aside0.mk (below_step (by repeat (first | (with_reducible first | exact HB.out | apply below_alloc | apply pw_below_drewN | apply below_drew1 | refine below_set ?_ GE358.out) | exact HB.out)) hb)
                          clear HO364
                          clear BK358
                          clear HB
                          have HO364 := n0_
                          have HO361 := n1_
                          have BK358 := n2_
                          have HB := n3_
                          clear n0_ n1_ n2_ n3_
                          clear hb ho31
                          obtain ⟨Ao32, co32, eo32⟩ := Kd.R_slice HO364.out
                          (first | subst eo32 | (injection eo32 with f1_ f2_ f3_; have f4_ := f1_.symm; have f5_ := f3_.symm; clear f1_ f2_ f3_; subst f4_; subst f5_))
                          obtain ⟨Ao33, co33, eo33⟩ := Kd.R_slice HO361.out
                          (first | subst eo33 | (injection eo33 with f1_ f2_ f3_; have f4_ := f1_.symm; have f5_ := f3_.symm; clear f1_ f2_ f3_; subst f4_; subst f5_))
                          refine hK.out _ _ trivial (fun hHeld => ?_)
                          clear hK K
                          refine norm_ (a' := ?_) ?_ ?_
                          rotate_left
                          · show Act.put _ (some 33) _ = _
                            simp only [Act.put, List.setIfInBounds_toArray, List.set_cons_zero, List.set_cons_succ, i64_w, i32_w]
                            rfl
                          exact norm_ (by simp only [putAll, Act.put, List.setIfInBounds_toArray, List.set_cons_zero, List.set_cons_succ]) (hCont (.slice Ao33 y359.length co33, .slice Ao32 y362.length co32) _ ⟨(by (with_reducible repeat (first | apply Kd.R_alloc | apply Kd.R_drewN | apply Kd.R_drew)); exact Kd.R_mono HO361.out (fun _ hk => hk.2)), (by (with_reducible repeat (first | apply Kd.R_alloc | apply Kd.R_drewN | apply Kd.R_drew)); exact Kd.R_mono HO364.out (fun _ hk => hk.2)), (by (with_reducible repeat (first | refine blk_drewN ?_ _ | refine blk_drew ?_ | refine blk_alloc ?_ _)); exact BK358.out), (by repeat (first | (with_reducible first | exact HB.out | apply below_alloc | apply pw_below_drewN | apply below_drew1 | refine below_set ?_ GE358.out) | exact HB.out))⟩)
                      rintro ⟨v360, v363⟩ w34 ⟨h0_, h1_, h2_, h3_⟩
                      have n0_ : Aside0 (Kd.R k38 38 w34 w.heap.size (fun k_ => some k_ ≠ (v363 : Value).ownBlock) v360 y359) := ⟨h0_⟩
                      have n1_ : Aside0 (Kd.R k38 38 w34 w.heap.size (fun k_ => some k_ ≠ (v360 : Value).ownBlock) v363 y362) := ⟨h1_⟩
                      have n2_ : Aside0 (w34.heap[gb358]? = some (.cells #[.int .i64 0, .slice none 0 0, .slice none 0 0, .bool false] 24 (0, 0))) := ⟨h2_⟩
                      have n3_ : Aside0 (Below w.heap.size w w34) := ⟨h3_⟩
                      clear BK358
                      clear HB
                      clear h0_ h1_ h2_ h3_
                      have HO361 := n0_
                      have HO364 := n1_
                      have BK358 := n2_
                      have HB := n3_
                      clear n0_ n1_ n2_ n3_
                      have hHeld := trivial
                      obtain ⟨Ao35, co35, eo35⟩ := Kd.R_slice HO364.out
                      (first | subst eo35 | (injection eo35 with f1_ f2_ f3_; have f4_ := f1_.symm; have f5_ := f3_.symm; clear f1_ f2_ f3_; subst f4_; subst f5_))
                      obtain ⟨Ao36, co36, eo36⟩ := Kd.R_slice HO361.out
                      (first | subst eo36 | (injection eo36 with f1_ f2_ f3_; have f4_ := f1_.symm; have f5_ := f3_.symm; clear f1_ f2_ f3_; subst f4_; subst f5_))
                      refine norm_ (a' := ?_) ?_ ?_
                      rotate_left
                      · simp only [putAll, Act.put, List.setIfInBounds_toArray, List.set_cons_zero, List.set_cons_succ]
                        rfl
                      refine pure_ (i := 5) (N := some 36) (v := ?_) (a' := ?_) #[true, true, true, true, true, true, false, false] rfl rfl (any_of HT_.out (by kernel_rfl)) (fun _ _ _ h => h) (Or.inl ⟨by rfl, ?_⟩) ?_ ?_
                      rotate_left
                      · intro w'
                        go_simp
                        with_reducible rfl
                      rotate_left
                      · simp only [Act.put, List.setIfInBounds_toArray, List.set_cons_zero, List.set_cons_succ, i64_w, i32_w]
                        rfl
                      refine one_ (i := 6) (N := none) #[true, true, true, true, true, true, true, false] rfl rfl (one_of HT_.out (by kernel_rfl)) (by decide) (fun K hK => ?_)
                      have hs37 : w34.cell? ⟨gb358, 0, none⟩ = some (.int .i64 0) := (blk_cell BK358.out 0).trans rfl
                      have hfs37 := blk_frozen BK358.out 0
                      have hs38 : w34.cell? ⟨gb358, 1, none⟩ = some (.slice none 0 0) := (blk_cell BK358.out 1).trans rfl
                      have hfs38 := blk_frozen BK358.out 1
                      have hs39 : w34.cell? ⟨gb358, 2, none⟩ = some (.slice none 0 0) := (blk_cell BK358.out 2).trans rfl
                      have hfs39 := blk_frozen BK358.out 2
                      have hs40 : w34.cell? ⟨gb358, 3, none⟩ = some (.bool false) := (blk_cell BK358.out 3).trans rfl
                      have hfs40 := blk_frozen BK358.out 3
                      refine skip_ (w1 := ?_) (by rfl) rfl ?_ ?_
                      rotate_left
                      · go_simp
                        rfl
                      refine hK.out _ _ trivial (fun hHeld => ?_)
                      clear hK K
                      refine pure_ (i := 7) (N := some 7) (v := ?_) (a' := ?_) #[true, true, true, true, true, true, true, true] rfl rfl (any_of HT_.out (by kernel_rfl)) (fun _ _ _ h => h) (Or.inl ⟨by rfl, ?_⟩) ?_ ?_
                      rotate_left
                      · intro w'
                        go_simp
                        with_reducible rfl
                      rotate_left
                      · simp only [Act.put, List.setIfInBounds_toArray, List.set_cons_zero, List.set_cons_succ, i64_w, i32_w]
                        rfl
                      refine done_ (done_of HT_.out (by kernel_rfl)) ?_
                      try go_wp2
                      refine bodyPost_ret (results_ct rfl _ _ gb358 24 #[.int .i64 a2, .slice Ao36 y359.length co36, .slice Ao35 y362.length co35, .bool false] (0, 0) _ rfl (by (with_reducible repeat (first | refine blk_drewN ?_ _ | refine blk_drew ?_ | refine blk_alloc ?_ _)); refine blk_put (cs := #[.int .i64 a2, .slice Ao36 y359.length co36, .slice Ao35 y362.length co35, .bool false]) ?_ 3 _ rfl; (with_reducible repeat (first | refine blk_drewN ?_ _ | refine blk_drew ?_ | refine blk_alloc ?_ _)); refine blk_put (cs := #[.int .i64 a2, .slice Ao36 y359.length co36, .slice none 0 0, .bool false]) ?_ 2 _ rfl; (with_reducible repeat (first | refine blk_drewN ?_ _ | refine blk_drew ?_ | refine blk_alloc ?_ _)); refine blk_put (cs := #[.int .i64 a2, .slice none 0 0, .slice none 0 0, .bool false]) ?_ 1 _ rfl; (with_reducible repeat (first | refine blk_drewN ?_ _ | refine blk_drew ?_ | refine blk_alloc ?_ _)); refine blk_put (cs := #[.int .i64 0, .slice none 0 0, .slice none 0 0, .bool false]) ?_ 0 _ rfl; (with_reducible repeat (first | refine blk_drewN ?_ _ | refine blk_drew ?_ | refine blk_alloc ?_ _)); exact BK358.out) Tryd.underlying24 rfl (by kernel_rfl)) rfl ?_
                      exact ⟨_, _, by first | rfl | (simp [errW_none, errW_some] <;> rfl) | (simp [*, errW_none, errW_some] <;> rfl), by (with_reducible repeat (first | apply Kd.R_alloc | apply Kd.R_drewN | apply Kd.R_drew)); exact Kd.R_mono (Kd.R_far (p := ⟨gb358, 3, none⟩) (Kd.R_far (p := ⟨gb358, 2, none⟩) (Kd.R_far (p := ⟨gb358, 1, none⟩) (Kd.R_far (p := ⟨gb358, 0, none⟩) (Kd.R_types HO361.out BK358.out (by decide)) (fun _ hk => hk.2) (.int .i64 a2)) (fun _ hk => hk.2) (.slice Ao36 y359.length co36)) (fun _ hk => hk.2) (.slice Ao35 y362.length co35)) (fun _ hk => hk.2) (.bool false)) (fun _ hk => hk.1), by (with_reducible repeat (first | apply Kd.R_alloc | apply Kd.R_drewN | apply Kd.R_drew)); exact Kd.R_mono (Kd.R_far (p := ⟨gb358, 3, none⟩) (Kd.R_far (p := ⟨gb358, 2, none⟩) (Kd.R_far (p := ⟨gb358, 1, none⟩) (Kd.R_far (p := ⟨gb358, 0, none⟩) (Kd.R_types HO364.out BK358.out (by decide)) (fun _ hk => hk.2) (.int .i64 a2)) (fun _ hk => hk.2) (.slice Ao36 y359.length co36)) (fun _ hk => hk.2) (.slice Ao35 y362.length co35)) (fun _ hk => hk.2) (.bool false)) (fun _ hk => hk.1), by repeat (first | (with_reducible first | exact HB.out | apply below_alloc | apply pw_below_drewN | apply below_drew1 | refine below_set ?_ GE358.out) | exact HB.out)⟩
                    · rw [if_neg c25] at H
                      exact absurd H (by simp)
                  · rw [if_neg c24] at H
                    exact absurd H (by simp)
                · rw [if_neg c23] at H
                  exact absurd H (by simp)
              · rw [if_neg c22] at H
                exact absurd H (by simp)

end Go.Proofs.YtponmfnegdlppaaDoor.P

end
section
/- A state and two older lists (printed by HRuns.gen.py). -/
namespace Go.Proofs.YtponmfnegdlppaaDoor.P
open Go.RowKit Go.Proofs.YtponmfnegdlppaaDoorW.PrintWords Go.Proofs.YtponmfnegdlppaaDoorW.PrintLast Go.Proofs.YtponmfnegdlppaaDoorW.PrintMore
set_option linter.unusedVariables false
set_option linter.unusedSimpArgs false

theorem new_eq {m r : Nat} {t : Int} (hm : m ≤ 6) (hr1 : 1 ≤ r) (hr : r ≤ 6) (h1 : 1 ≤ t) (h2 : t ≤ 5) : ledger_New.f m r t = some (t, List.replicate m z38, List.replicate r z38, false, 0) := by
  unfold ledger_New.f
  rw [if_neg (by omega), if_neg (by omega), if_neg (by omega), if_neg (by omega), if_neg (by omega), if_neg (by omega), if_pos (by omega), if_pos (by omega), if_pos (by omega), if_pos (by omega), Int.toNat_natCast, Int.toNat_natCast]
theorem zero56 : Tryd.zeroCells56 = ncells (fun _ => false) (fun _ => false) 0 0 := by kernel_rfl
def SR (w : World) (gN g11 : Nat) (t : Int) (m r : Nat) (W : World) : Prop := ∃ (A0' A1' : Option Addr) (p0' p1' : Nat) (l0' l1' : List S38) (fl' : Bool) (bg' ch' : Nat → Bool) (s' c' : Int), INV t l0' l1' fl' m r bg' ch' s' c' ∧
  Env w (⟨gN, ncells bg' ch' s' c', 56⟩ :: ⟨g11, #[.int .i64 t, .slice A0' l0'.length p0', .slice A1' l1'.length p1', .bool fl'], 24⟩ :: []) (⟨1, k38, 38, .slice A0' l0'.length p0', l0'⟩ :: ⟨2, k38, 38, .slice A1' l1'.length p1', l1'⟩ :: []) W
/-- a state, and two older lists that are read -/
structure LX (w : World) (B : List Bx) (R : List It) (A0 : Option Addr) (l0 : List S38) (A1 : Option Addr) (l1 : List S38) (W : World) : Prop where
  env : Env w B R W
  old0 : Kd.C k38 W A0 l0.length l0
  old1 : Kd.C k38 W A1 l1.length l1
section
variable {w W W' : World} {B : List Bx} {R : List It} {A0 A1 : Option Addr} {l0 l1 : List S38}
theorem LX.below (h : LX w B R A0 l0 A1 l1 W) (hb : Below W.heap.size W W') : LX w B R A0 l0 A1 l1 W' := ⟨h.env.below hb, Kd.C_below h.old0 hb, Kd.C_below h.old1 hb⟩
theorem LX.push (h : LX w B R A0 l0 A1 l1 W) (cs : Array Value) (t : Nat) : LX w (⟨W.heap.size, cs, t⟩ :: B) R A0 l0 A1 l1 (W.alloc (.cells cs t)) :=
  ⟨h.env.push cs t, Kd.C_below h.old0 (below_alloc (Below.refl _ _) _), Kd.C_below h.old1 (below_alloc (Below.refl _ _) _)⟩
theorem LX.at_ (h : LX w B R A0 l0 A1 l1 W) (n i : Nat) {g t : Nat} {cs : Array Value} {v : Value} (hn : B[n]? = some ⟨g, cs, t⟩) (hv : cs[i]? = some v) : W.cell? ⟨g, i, none⟩ = some v := h.env.at_ n i hn hv
theorem LX.fr_ (h : LX w B R A0 l0 A1 l1 W) (n i : Nat) {g t : Nat} {cs : Array Value} (hn : B[n]? = some ⟨g, cs, t⟩) : W.frozen? ⟨g, i, none⟩ = false := h.env.fr_ n i hn
theorem LX.row_ (h : LX w B R A0 l0 A1 l1 W) (n : Nat) {α : Type} {c e m cp : Nat} {d : Kd α} {A : Option Addr} {l : List α} (hn : R[n]? = some (⟨c, d, e, .slice A m cp, l⟩ : It)) : d.C W A l.length l := h.env.row_ n hn
theorem LX.store11 {g18 g16 g15 bN : Bx} {g11 t : Nat} {z0 z1 z2 z3 : Value} (h : LX w (g18 :: g16 :: g15 :: bN :: ⟨g11, #[z0, z1, z2, z3], t⟩ :: []) R A0 l0 A1 l1 W) (v0 v1 v2 v3 : Value) :
    Env w (bN :: ⟨g11, #[v0, v1, v2, v3], t⟩ :: []) R ((((W.setCell ⟨g11, 0, none⟩ v0).setCell ⟨g11, 1, none⟩ v1).setCell ⟨g11, 2, none⟩ v2).setCell ⟨g11, 3, none⟩ v3) :=
  (((h.env.sub (.cons _ (.cons _ (.cons _ (List.Sublist.refl _)))) (List.Sublist.refl _)).bswap).book4 v0 v1 v2 v3).bswap
end
theorem INV.f2s {t : Int} {l0 l1 : List S38} {fl : Bool} {m r : Nat} {bg ch : Nat → Bool} {s c : Int} (h : INV t l0 l1 fl m r bg ch s c) : ∀ x ∈ l0 ++ l1, 0 ≤ x.f2 ∧ x.f2 ≤ 16 := by
  obtain ⟨q1, q2, q3, q4, q5, q6, q7, q8, q9⟩ := (check_iff _ _ _ _).1 h.check
  intro x mx
  rcases List.mem_append.1 mx with mx | mx
  · obtain ⟨g1, g2, g3, g4, g5, g6, g7⟩ := good_state (q6 x mx); omega
  · obtain ⟨g1, g2, g3, g4, g5, g6, g7⟩ := good_state (q7 x mx); omega
end Go.Proofs.YtponmfnegdlppaaDoor.P

end
section
/- ledger.Check, Begun as the print calls them. -/
namespace Go.Proofs.YtponmfnegdlppaaDoor.P
open Go.RowKit Go.Proofs.YtponmfnegdlppaaDoorW.PrintWords Go.Proofs.YtponmfnegdlppaaDoorW.PrintLast Go.Proofs.YtponmfnegdlppaaDoorW.PrintMore
set_option linter.unusedVariables false
def ledger_Check.f (a0_0 : Int) (l0_1 l0_2 : List S38) (a0_3 : Bool) : Option Int := some (checkP a0_0 l0_1 l0_2 a0_3)
theorem ledger_Check.calls (a0_0 : Int) (A0_1 : Option Addr) (c0_1 : Nat) (l0_1 : List S38) (A0_2 : Option Addr) (c0_2 : Nat) (l0_2 : List S38) (a0_3 : Bool) (r : Int) (w : World) (hr0_1 : Kd.C k38 w A0_1 l0_1.length l0_1) (hc0_1 : l0_1.length ≤ c0_1) (hr0_2 : Kd.C k38 w A0_2 l0_2.length l0_2) (hc0_2 : l0_2.length ≤ c0_2) (h : ledger_Check.f a0_0 l0_1 l0_2 a0_3 = some r) (hTAB_ : Tab w) :
    Calls Tryd.prog 15 #[.agg #[.int .i64 a0_0, .slice A0_1 l0_1.length c0_1, .slice A0_2 l0_2.length c0_2, .bool a0_3]] w fun e w' => e = .returned (.int .i64 r) ∧ Below w.heap.size w w' := by
  obtain rfl := Option.some.inj h
  exact check_any a0_0 a0_3 A0_1 c0_1 l0_1 A0_2 c0_2 l0_2 w hr0_1 hr0_2 hTAB_
def ledger_Begun.f (a0_0 : Int) (l0_1 l0_2 : List S38) (a0_3 : Bool) : Option (Int × Int) := if small l0_1 l0_2 then some (begunP a0_0 l0_1 l0_2 a0_3) else none
theorem ledger_Begun.calls (a0_0 : Int) (A0_1 : Option Addr) (c0_1 : Nat) (l0_1 : List S38) (A0_2 : Option Addr) (c0_2 : Nat) (l0_2 : List S38) (a0_3 : Bool) (r1 r2 : Int) (w : World) (hr0_1 : Kd.C k38 w A0_1 l0_1.length l0_1) (hc0_1 : l0_1.length ≤ c0_1) (hr0_2 : Kd.C k38 w A0_2 l0_2.length l0_2) (hc0_2 : l0_2.length ≤ c0_2) (h : ledger_Begun.f a0_0 l0_1 l0_2 a0_3 = some (r1, r2)) (hTAB_ : Tab w) :
    Calls Tryd.prog 12 #[.agg #[.int .i64 a0_0, .slice A0_1 l0_1.length c0_1, .slice A0_2 l0_2.length c0_2, .bool a0_3]] w fun e w' => e = .returned (.tuple #[.int .i64 r1, .int .i64 r2]) ∧ Below w.heap.size w w' := by
  unfold ledger_Begun.f at h
  by_cases hs : small l0_1 l0_2
  · rw [if_pos hs] at h
    have e := Option.some.inj h
    have := begun_any a0_0 a0_3 A0_1 c0_1 l0_1 A0_2 c0_2 l0_2 w hr0_1 hr0_2 hs.1 hs.2 hTAB_
    rw [e] at this
    exact this
  · rw [if_neg hs] at h; cases h
end Go.Proofs.YtponmfnegdlppaaDoor.P

end
