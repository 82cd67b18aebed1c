/- Several texts laid together (wip/tools/merge2.py): HAll, HBeginF, HBegun, RunPlain, RunBegin, RunMoves, RunFew, HNotes. -/
import Derived.Test.YtponmfnegdlppaaDoorMP2
import Derived.Test.YtponmfnegdlppaaDoorMP7
import Derived.Test.YtponmfnegdlppaaDoorMP8
import Derived.Test.YtponmfnegdlppaaDoorMP3
import Derived.Test.YtponmfnegdlppaaDoorMP1
import Derived.Outline
section
/- Are all tasks done? -/
namespace Go.Proofs.YtponmfnegdlppaaDoor.P
open Go.RowKit Go.Proofs.YtponmfnegdlppaaDoorW.PrintWords Go.Proofs.YtponmfnegdlppaaDoorW.PrintLast Go.Proofs.YtponmfnegdlppaaDoorW.PrintMore
set_option linter.unusedVariables false
set_option linter.unusedSimpArgs false

/-- are all done? -/
def allP (l : List S38) : Bool := l.all fun s => decide (s.f0 = 3)
theorem all_loop (l : List S38) (hl : l.length ≤ 6000000000000) (d : Nat) : ∀ (k i : Nat), i + d = l.length → d < k → ledger_all.l0 k l (l.length : Int) (i : Int) = some (allP (l.drop i)) := by
  induction d with
  | zero =>
    intro k i hi hk
    obtain ⟨k, rfl⟩ : ∃ m, k = m + 1 := ⟨k - 1, by omega⟩
    rw [ledger_all.l0, if_neg (by omega), List.drop_eq_nil_of_le (by omega)]
    rfl
  | succ d ih =>
    intro k i hi hk
    obtain ⟨k, rfl⟩ : ∃ m, k = m + 1 := ⟨k - 1, by omega⟩
    have hw : wrap64 ((i : Int) + 1) = ((i + 1 : Nat) : Int) := by unfold wrap64; omega
    rw [ledger_all.l0, if_pos (by omega), if_pos (by omega), if_pos (by omega), drop38 l i (by omega)]
    by_cases h3 : (rd_T38 l (i : Int)).f0 = 3
    · rw [if_pos h3, hw, ih k (i + 1) (by omega) (by omega)]
      simp [allP, h3]
    · rw [if_neg h3]
      simp [allP, h3]
theorem all_eq (l : List S38) (hl : l.length ≤ 6000000000000) : ledger_all.f (l.length + 1) l = some (allP l) := by
  have := all_loop l hl l.length (l.length + 1) 0 (by omega) (by omega)
  rw [List.drop_zero] at this
  exact this
end Go.Proofs.YtponmfnegdlppaaDoor.P

end
section
/- ledger.Begin in the print's form (printed by HBeginF.gen.py). -/
namespace Go.Proofs.YtponmfnegdlppaaDoor.P
open Go.RowKit Go.Proofs.YtponmfnegdlppaaDoorW.PrintWords Go.Proofs.YtponmfnegdlppaaDoorW.PrintLast Go.Proofs.YtponmfnegdlppaaDoorW.PrintMore
set_option linter.unusedVariables false
set_option linter.unusedSimpArgs false

def beginS (t : Int) (l0 l1 : List S38) (k b : Int) (s : S38) (n : Int) (fresh : Bool) : Int × List S38 × List S38 × Bool × Int × Bool × Int :=
  if k = 0 then (t, l0.set b.toNat ⟨1, n, s.f2⟩, l1, false, n, fresh, 0) else (t, l0, l1.set b.toNat ⟨1, n, s.f2⟩, false, n, fresh, 0)
/-- a Begin -/
def beginP (t : Int) (l0 l1 : List S38) (fl : Bool) (k b : Int) : Int × List S38 × List S38 × Bool × Int × Bool × Int :=
  if knownP t l0 l1 fl [⟨k, b⟩] = 0 then
    if fl = true ∨ ((stP l0 l1 k b).f0 ≠ 0 ∧ (stP l0 l1 k b).f0 ≠ 2) ∨ (k = 1 ∧ allP l0 = false) then (0, [], [], false, 0, false, 192)
    else if (stP l0 l1 k b).f0 = 0 then beginS t l0 l1 k b (stP l0 l1 k b) ((stP l0 l1 k b).f1 + 1) true else beginS t l0 l1 k b (stP l0 l1 k b) (stP l0 l1 k b).f1 false
  else (0, [], [], false, 0, false, knownP t l0 l1 fl [⟨k, b⟩])
theorem good_state {t : Int} {held : Bool} {s : S38} (h : goodP t held s = true) : (s.f0 = 0 ∨ s.f0 = 1 ∨ s.f0 = 2 ∨ s.f0 = 3) ∧ (held = false → s.f0 ≠ 2) ∧ (s.f0 = 0 → s.f1 = s.f2) ∧ (s.f0 ≠ 0 → s.f1 = s.f2 + 1) ∧ 0 ≤ s.f2 ∧ s.f2 ≤ t ∧ (s.f2 = t → s.f0 = 0) := by
  unfold goodP at h
  simp only [Bool.and_eq_true, Bool.or_eq_true, Bool.not_eq_true', decide_eq_false_iff_not, decide_eq_true_eq] at h
  obtain ⟨h1, h2, h3, h4, h5, h6, h7⟩ := h
  refine ⟨by omega, fun hh => ?_, fun hh => ?_, fun hh => ?_, by omega, by omega, fun hh => ?_⟩
  · rcases h3 with h3 | h3
    · rw [hh] at h3; cases h3
    · exact h3
  · rw [if_pos hh] at h6; omega
  · rw [if_neg hh] at h6; exact h6
  · rcases h7 with h7 | h7
    · exact absurd hh h7
    · exact h7

theorem begin_any (t : Int) (fl : Bool) (A0 : Option Addr) (c0 : Nat) (l0 : List S38) (A1 : Option Addr) (c1 : Nat) (l1 : List S38) (k b : Int) (r1 : Int) (r2 r3 : List S38) (r4 : Bool) (r5 : Int) (r6 : Bool) (r7 : Int) (w : World)
    (h0 : Kd.C k38 w A0 l0.length l0) (hc0 : l0.length ≤ c0) (h1 : Kd.C k38 w A1 l1.length l1) (hl0 : l0.length ≤ 6000000000000) (hl1 : l1.length ≤ 6000000000000) (hT : Tab w) (h : beginP t l0 l1 fl k b = (r1, r2, r3, r4, r5, r6, r7)) :
    Calls Tryd.prog 28 #[.agg #[.int .i64 t, .slice A0 l0.length c0, .slice A1 l1.length c1, .bool fl], .agg #[.int .i64 k, .int .i64 b]] w fun e_ w' =>
      ∃ v1 v2 : Value, e_ = .returned (.tuple #[.agg #[.int .i64 r1, v1, v2, .bool r4], .int .i64 r5, .bool r6, .int .i64 r7]) ∧ Kd.R k38 38 w' w.heap.size (fun k => some k ≠ v2.ownBlock) v1 r2 ∧ Kd.R k38 38 w' w.heap.size (fun k => some k ≠ v1.ownBlock) v2 r3 ∧ Below w.heap.size w w' := by
  unfold beginP at h
  by_cases hk : knownP t l0 l1 fl [⟨k, b⟩] = 0
  · rw [if_pos hk] at h
    obtain ⟨hc, hf⟩ := known_one hk
    obtain ⟨q1, q2, q3, q4, q5, q6, q7, _⟩ := check_ok hc
    rcases hf with ⟨rfl, n, rfl, hn⟩ | ⟨rfl, n, rfl, hn⟩
    · have hst : stP l0 l1 0 (n : Int) = rd_T38 l0 (n : Int) := by unfold stP; rw [if_pos rfl]
      rw [hst] at h
      obtain ⟨g1, g2, g3, g4, g5, g6, g7⟩ := good_state (q6 _ (rd_mem hn))
      by_cases hfl : fl = true
      · rw [if_pos (.inl hfl)] at h
        subst hfl
        simp only [Prod.mk.injEq] at h
        obtain ⟨rfl, rfl, rfl, rfl, rfl, rfl, rfl⟩ := h
        refine (begin_failed_map t A0 c0 l0 A1 c1 l1 n w h0 hc0 h1 hl0 hl1 hT hk hn).mono ?_
        rintro e w' ⟨rfl, hB⟩
        exact ⟨_, _, rfl, Kd.R_nil _ _ _ _ _, Kd.R_nil _ _ _ _ _, hB⟩
      obtain rfl : fl = false := by cases fl <;> simp_all
      by_cases s1 : (rd_T38 l0 (n : Int)).f0 = 1
      · rw [if_pos (.inr (.inl ⟨by omega, by omega⟩))] at h
        simp only [Prod.mk.injEq] at h
        obtain ⟨rfl, rfl, rfl, rfl, rfl, rfl, rfl⟩ := h
        refine (begin_st1_map t A0 c0 l0 A1 c1 l1 n w h0 hc0 h1 hl0 hl1 hT hk hn s1).mono ?_
        rintro e w' ⟨rfl, hB⟩
        exact ⟨_, _, rfl, Kd.R_nil _ _ _ _ _, Kd.R_nil _ _ _ _ _, hB⟩
      by_cases s3 : (rd_T38 l0 (n : Int)).f0 = 3
      · rw [if_pos (.inr (.inl ⟨by omega, by omega⟩))] at h
        simp only [Prod.mk.injEq] at h
        obtain ⟨rfl, rfl, rfl, rfl, rfl, rfl, rfl⟩ := h
        refine (begin_st3_map t A0 c0 l0 A1 c1 l1 n w h0 hc0 h1 hl0 hl1 hT hk hn s3).mono ?_
        rintro e w' ⟨rfl, hB⟩
        exact ⟨_, _, rfl, Kd.R_nil _ _ _ _ _, Kd.R_nil _ _ _ _ _, hB⟩
      have s0 : (rd_T38 l0 (n : Int)).f0 = 0 := by have := g2 rfl; omega
      rw [if_neg (by rintro (h | h | h); exact absurd h (by decide); omega; exact absurd h.1 (by decide)), if_pos s0] at h
      unfold beginS at h
      rw [if_pos rfl, Int.toNat_natCast] at h
      simp only [Prod.mk.injEq] at h
      obtain ⟨rfl, rfl, rfl, rfl, rfl, rfl, rfl⟩ := h
      exact begin_fresh_map t A0 c0 l0 A1 c1 l1 n w h0 hc0 h1 hl0 hl1 hT hk hn s0 (by omega) (by omega) (by have := g3 s0; omega)
    · have hst : stP l0 l1 1 (n : Int) = rd_T38 l1 (n : Int) := by unfold stP; rw [if_neg (by decide)]
      rw [hst] at h
      obtain ⟨g1, g2, g3, g4, g5, g6, g7⟩ := good_state (q7 _ (rd_mem hn))
      by_cases hfl : fl = true
      · rw [if_pos (.inl hfl)] at h
        subst hfl
        simp only [Prod.mk.injEq] at h
        obtain ⟨rfl, rfl, rfl, rfl, rfl, rfl, rfl⟩ := h
        refine (begin_failed_red t A0 c0 l0 A1 c1 l1 n w h0 hc0 h1 hl0 hl1 hT hk hn).mono ?_
        rintro e w' ⟨rfl, hB⟩
        exact ⟨_, _, rfl, Kd.R_nil _ _ _ _ _, Kd.R_nil _ _ _ _ _, hB⟩
      obtain rfl : fl = false := by cases fl <;> simp_all
      by_cases s1 : (rd_T38 l1 (n : Int)).f0 = 1
      · rw [if_pos (.inr (.inl ⟨by omega, by omega⟩))] at h
        simp only [Prod.mk.injEq] at h
        obtain ⟨rfl, rfl, rfl, rfl, rfl, rfl, rfl⟩ := h
        refine (begin_st1_red t A0 c0 l0 A1 c1 l1 n w h0 hc0 h1 hl0 hl1 hT hk hn s1).mono ?_
        rintro e w' ⟨rfl, hB⟩
        exact ⟨_, _, rfl, Kd.R_nil _ _ _ _ _, Kd.R_nil _ _ _ _ _, hB⟩
      by_cases s3 : (rd_T38 l1 (n : Int)).f0 = 3
      · rw [if_pos (.inr (.inl ⟨by omega, by omega⟩))] at h
        simp only [Prod.mk.injEq] at h
        obtain ⟨rfl, rfl, rfl, rfl, rfl, rfl, rfl⟩ := h
        refine (begin_st3_red t A0 c0 l0 A1 c1 l1 n w h0 hc0 h1 hl0 hl1 hT hk hn s3).mono ?_
        rintro e w' ⟨rfl, hB⟩
        exact ⟨_, _, rfl, Kd.R_nil _ _ _ _ _, Kd.R_nil _ _ _ _ _, hB⟩
      have hal := all_eq l0 hl0
      by_cases ha : allP l0 = false
      · rw [if_pos (.inr (.inr ⟨rfl, ha⟩))] at h
        rw [ha] at hal
        by_cases s0 : (rd_T38 l1 (n : Int)).f0 = 0
        · skip
          simp only [Prod.mk.injEq] at h
          obtain ⟨rfl, rfl, rfl, rfl, rfl, rfl, rfl⟩ := h
          refine (begin_notall0_red t A0 c0 l0 A1 c1 l1 n w h0 hc0 h1 hl0 hl1 hT hk hn s0 _ hal).mono ?_
          rintro e w' ⟨rfl, hB⟩
          exact ⟨_, _, rfl, Kd.R_nil _ _ _ _ _, Kd.R_nil _ _ _ _ _, hB⟩
        · have s2 : (rd_T38 l1 (n : Int)).f0 = 2 := by omega
          simp only [Prod.mk.injEq] at h
          obtain ⟨rfl, rfl, rfl, rfl, rfl, rfl, rfl⟩ := h
          refine (begin_notall2_red t A0 c0 l0 A1 c1 l1 n w h0 hc0 h1 hl0 hl1 hT hk hn s2 _ hal).mono ?_
          rintro e w' ⟨rfl, hB⟩
          exact ⟨_, _, rfl, Kd.R_nil _ _ _ _ _, Kd.R_nil _ _ _ _ _, hB⟩
      have ha' : allP l0 = true := by cases hh : allP l0 <;> simp_all
      rw [ha'] at hal
      rw [if_neg (by rintro (h | h | h); exact absurd h (by decide); omega; exact ha h.2)] at h
      by_cases s0 : (rd_T38 l1 (n : Int)).f0 = 0
      · rw [if_pos s0] at h
        unfold beginS at h
        rw [if_neg (by decide), Int.toNat_natCast] at h
        simp only [Prod.mk.injEq] at h
        obtain ⟨rfl, rfl, rfl, rfl, rfl, rfl, rfl⟩ := h
        exact begin_fresh_red t A0 c0 l0 A1 c1 l1 n w h0 hc0 h1 hl0 hl1 hT hk hn s0 _ hal (by omega) (by omega) (by have := g3 s0; omega)
      · rw [if_neg s0] at h
        unfold beginS at h
        rw [if_neg (by decide), Int.toNat_natCast] at h
        simp only [Prod.mk.injEq] at h
        obtain ⟨rfl, rfl, rfl, rfl, rfl, rfl, rfl⟩ := h
        exact begin_held_red t A0 c0 l0 A1 c1 l1 n w h0 hc0 h1 hl0 hl1 hT hk hn (by omega) _ hal (by omega) (by omega)
  · rw [if_neg hk] at h
    simp only [Prod.mk.injEq] at h
    obtain ⟨rfl, rfl, rfl, rfl, rfl, rfl, rfl⟩ := h
    refine (begin_bad t fl A0 c0 l0 A1 c1 l1 k b w h0 hc0 h1 hl0 hl1 hT _ rfl hk).mono ?_
    rintro e w' ⟨rfl, hB⟩
    exact ⟨_, _, rfl, Kd.R_nil _ _ _ _ _, Kd.R_nil _ _ _ _ _, hB⟩
end Go.Proofs.YtponmfnegdlppaaDoor.P

end
section
/- ledger.Begun, by hand (printed by HBegun.gen.py). -/
namespace Go.Proofs.YtponmfnegdlppaaDoor.P
open Go.RowKit Go.Proofs.YtponmfnegdlppaaDoorW.PrintWords Go.Proofs.YtponmfnegdlppaaDoorW.PrintLast Go.Proofs.YtponmfnegdlppaaDoorW.PrintMore
set_option linter.unusedVariables false
set_option linter.unusedSimpArgs false

/-- a sum as the machine reckons it -/
def sumW (g : S38 → Int) : List S38 → Int → Int
  | [], n => n
  | s :: l, n => sumW g l (wrap64 (n + g s))
def begunP (t : Int) (l0 l1 : List S38) (fl : Bool) : Int × Int := if checkP t l0 l1 fl = 0 then (sumW S38.f1 l1 (sumW S38.f1 l0 0), sumW S38.f2 l1 (sumW S38.f2 l0 0)) else (0, 0)
theorem iy0 (A : Option Addr) (n c : Nat) (B : Option Addr) (m d : Nat) (w : World) : Sem.run Tryd.prog (Instr.index 69 (Value.agg #[.slice A n c, .slice B m d]) (Value.int .i64 0)) w = .ok (.slice A n c) w := by kernel_rfl

set_option maxHeartbeats 4000000 in
set_option maxRecDepth 100000 in
theorem begun_any (t : Int) (fl : Bool) (A0 : Option Addr) (c0 : Nat) (l0 : List S38) (A1 : Option Addr) (c1 : Nat) (l1 : List S38) (w : World) (h0 : Kd.C k38 w A0 l0.length l0) (h1 : Kd.C k38 w A1 l1.length l1) (hl0 : l0.length ≤ 6000000000000) (hl1 : l1.length ≤ 6000000000000) (hT : Tab w) :
    Calls Tryd.prog 12 #[.agg #[.int .i64 t, .slice A0 l0.length c0, .slice A1 l1.length c1, .bool fl]] w fun e w' => e = .returned (.tuple #[.int .i64 (begunP t l0 l1 fl).1, .int .i64 (begunP t l0 l1 fl).2]) ∧ Below w.heap.size w w' := by
  have hba := below_alloc (Below.refl w.heap.size w) (.cells #[.int .i64 t, .slice A0 l0.length c0, .slice A1 l1.length c1, .bool fl] 24)
  have hbk : bookAt (w.alloc (.cells #[.int .i64 t, .slice A0 l0.length c0, .slice A1 l1.length c1, .bool fl] 24)) w.heap.size t (.slice A0 l0.length c0) (.slice A1 l1.length c1) fl := heap_alloc_new w _
  have hcall := check_any t fl A0 c0 l0 A1 c1 l1 (w.alloc (.cells #[.int .i64 t, .slice A0 l0.length c0, .slice A1 l1.length c1, .bool fl] 24)) (Kd.C_below h0 hba) (Kd.C_below h1 hba) (hT.below hba)
  have HCA := Aside0.mk hcall
  have HBA := Aside0.mk hba
  have HBK := Aside0.mk hbk
  have H0 := Aside0.mk h0
  have H1 := Aside0.mk h1
  clear hcall hba hbk h0 h1 hT
  obtain ⟨⟨ra, rb⟩, hr⟩ : ∃ r, begunP t l0 l1 fl = r := ⟨_, rfl⟩
  rw [hr]
  dsimp only
  generalize hn0 : l0.length = n0 at *
  generalize hn1 : l1.length = n1 at *
  have HN0 := Aside0.mk hn0
  have HN1 := Aside0.mk hn1
  clear hn0 hn1
  have hu22 := Tryd.underlying22
  have hu38 := Tryd.underlying38
  have hu24 := Tryd.underlying24
  have hu69 := Tryd.underlying69
  have hz0 := HBK.out.c0
  have hz1 := HBK.out.c1
  have hz2 := HBK.out.c2
  have hz3 := HBK.out.c3
  by_cases hc : checkP t l0 l1 fl = 0
  · unfold begunP at hr
    rw [if_pos hc] at hr
    injection hr with hra hrb
    have hcall := HCA.out
    rw [hc] at hcall
    have HCA2 := Aside0.mk hcall
    have HRA := Aside0.mk hra
    have HRB := Aside0.mk hrb
    clear hra hrb hcall hc HCA
    go_enter Tryd.func12, Tryd.ntmps12
    go_upto_region 4 with (go_at_call 15; refine HCA2.out.mono ?_; rintro e W2 ⟨rfl, hB2⟩; have HB2 := Aside0.mk (HBK.out.below hB2 HBK.out.lt); have HA2 := Aside0.mk (below_step HBA.out hB2); clear hB2 HBK HBA hz0 hz1 hz2 hz3)
    clear HCA2
    have hz1 := HB2.out.c1
    have hz2 := HB2.out.c2
    go_wp2_with fail
    clear hz1 hz2
    go_loopw [4, 5, 18] (fun va vb vo wr => ∃ a b : Int, va = .int .i64 a ∧ vb = .int .i64 b ∧ ((vo = .int .i64 0 ∧ Aside0 (sumW S38.f1 l1 (sumW S38.f1 l0 a) = ra) ∧ Aside0 (sumW S38.f2 l1 (sumW S38.f2 l0 b) = rb)) ∨ (vo = .int .i64 1 ∧ Aside0 (sumW S38.f1 l1 a = ra) ∧ Aside0 (sumW S38.f2 l1 b = rb)) ∨ (vo = .int .i64 2 ∧ a = ra ∧ b = rb)) ∧ Aside0 (bookAt wr w.heap.size t (.slice A0 n0 c0) (.slice A1 n1 c1) fl) ∧ Aside0 (Below w.heap.size w wr)) (fun _ _ vo _ => 2 - (intOf vo).toNat)
    case atStart => exact ⟨0, 0, rfl, rfl, .inl ⟨rfl, HRA, HRB⟩, HB2, HA2⟩
    case round =>
      clear HRA HRB HB2 HA2
      obtain ⟨a, b, rfl, rfl, ho, HBK, HBA⟩ := hrel
      rcases ho with ⟨rfl, HRA, HRB⟩ | ⟨rfl, HRA, HRB⟩ | ⟨rfl, rfl, rfl⟩
      · have hix := ix0 A0 n0 c0 A1 n1 c1
        go_wp2_with fail
        clear hix
        go_loopw [4, 5, 23] (fun va vb vi wr => ∃ (i : Nat) (a b : Int), i ≤ n0 ∧ va = .int .i64 a ∧ vb = .int .i64 b ∧ vi = .int .i64 i ∧ Aside0 (sumW S38.f1 l1 (sumW S38.f1 (l0.drop i) a) = ra) ∧ Aside0 (sumW S38.f2 l1 (sumW S38.f2 (l0.drop i) b) = rb) ∧ Aside0 (bookAt wr w.heap.size t (.slice A0 n0 c0) (.slice A1 n1 c1) fl) ∧ Aside0 (Below w.heap.size w wr)) (fun _ _ vi _ => n0 - (intOf vi).toNat)
        case atStart => exact ⟨0, _, _, by omega, rfl, rfl, rfl, by rw [List.drop_zero]; exact HRA, by rw [List.drop_zero]; exact HRB, HBK, HBA⟩
        case round =>
          clear HRA HRB HBK HBA
          obtain ⟨i, a, b, hi, rfl, rfl, rfl, HRA, HRB, HBK, HBA⟩ := hrel
          by_cases hlt : i < n0
          · have hd1 : decide ((i : Int) < (n0 : Int)) = true := by simp; omega
            have hd2 : decide (i < n0) = true := by simp; omega
            have hra := HRA.out
            have hrb := HRB.out
            have hil : i < l0.length := by have := HN0.out; omega
            rw [drop38 l0 i hil] at hra hrb
            simp only [sumW] at hra hrb
            obtain ⟨ad, e, hx0, hx1, hx2⟩ := at_T38 H0.out (i : Int) (by omega) (by have := HN0.out; omega)
            subst e
            generalize rd_T38 l0 (i : Int) = s at *
            rw [Int.toNat_natCast] at hx0 hx1 hx2
            replace hx0 := (HBA.out.cell (World.block_lt_of_cell? w _ hx0)).trans hx0
            replace hx1 := (HBA.out.cell (World.block_lt_of_cell? w _ hx1)).trans hx1
            replace hx2 := (HBA.out.cell (World.block_lt_of_cell? w _ hx2)).trans hx2
            have HRA2 := Aside0.mk hra
            have HRB2 := Aside0.mk hrb
            obtain ⟨sa, sb, sc⟩ := s
            dsimp only at *
            have hya := below_alloc (Below.refl wr.heap.size wr) (.cells #[.int .i64 sa, .int .i64 sb, .int .i64 sc] 38)
            have HB2 := Aside0.mk (HBK.out.below hya HBK.out.lt)
            have HA2 := Aside0.mk (below_step HBA.out hya)
            have hw1 : IntKind.i64.wrap (a + sb) = wrap64 (a + sb) := i64_w _
            have hw2 : IntKind.i64.wrap (b + sc) = wrap64 (b + sc) := i64_w _
            clear hra hrb hya HRA HRB HBK HBA
            go_wp2_with fail
            go_roundw
            case rel => exact ⟨i + 1, wrap64 (a + sb), wrap64 (b + sc), by omega, by first | rfl | rw [hw1], by first | rfl | rw [hw2], by go_num, HRA2, HRB2, HB2, HA2⟩
            case measure => simp [intOf]; omega
          · obtain rfl : i = n0 := by omega
            have hd1 : decide ((i : Int) < (i : Int)) = false := by simp
            have hra := HRA.out
            have hrb := HRB.out
            rw [List.drop_eq_nil_of_le (by have := HN0.out; omega)] at hra hrb
            simp only [sumW] at hra hrb
            have HRA2 := Aside0.mk hra
            have HRB2 := Aside0.mk hrb
            clear hra hrb HRA HRB
            go_wp2_with fail
            go_roundw
            case rel => exact ⟨a, b, rfl, rfl, .inr (.inl ⟨rfl, HRA2, HRB2⟩), HBK, HBA⟩
            case measure => simp [intOf]
      · have hix := ix1 A0 n0 c0 A1 n1 c1
        go_wp2_with fail
        clear hix
        go_loopw [4, 5, 23] (fun va vb vi wr => ∃ (i : Nat) (a b : Int), i ≤ n1 ∧ va = .int .i64 a ∧ vb = .int .i64 b ∧ vi = .int .i64 i ∧ Aside0 (sumW S38.f1 (l1.drop i) a = ra) ∧ Aside0 (sumW S38.f2 (l1.drop i) b = rb) ∧ Aside0 (bookAt wr w.heap.size t (.slice A0 n0 c0) (.slice A1 n1 c1) fl) ∧ Aside0 (Below w.heap.size w wr)) (fun _ _ vi _ => n1 - (intOf vi).toNat)
        case atStart => exact ⟨0, _, _, by omega, rfl, rfl, rfl, by rw [List.drop_zero]; exact HRA, by rw [List.drop_zero]; exact HRB, HBK, HBA⟩
        case round =>
          clear HRA HRB HBK HBA
          obtain ⟨i, a, b, hi, rfl, rfl, rfl, HRA, HRB, HBK, HBA⟩ := hrel
          by_cases hlt : i < n1
          · have hd1 : decide ((i : Int) < (n1 : Int)) = true := by simp; omega
            have hd2 : decide (i < n1) = true := by simp; omega
            have hra := HRA.out
            have hrb := HRB.out
            have hil : i < l1.length := by have := HN1.out; omega
            rw [drop38 l1 i hil] at hra hrb
            simp only [sumW] at hra hrb
            obtain ⟨ad, e, hx0, hx1, hx2⟩ := at_T38 H1.out (i : Int) (by omega) (by have := HN1.out; omega)
            subst e
            generalize rd_T38 l1 (i : Int) = s at *
            rw [Int.toNat_natCast] at hx0 hx1 hx2
            replace hx0 := (HBA.out.cell (World.block_lt_of_cell? w _ hx0)).trans hx0
            replace hx1 := (HBA.out.cell (World.block_lt_of_cell? w _ hx1)).trans hx1
            replace hx2 := (HBA.out.cell (World.block_lt_of_cell? w _ hx2)).trans hx2
            have HRA2 := Aside0.mk hra
            have HRB2 := Aside0.mk hrb
            obtain ⟨sa, sb, sc⟩ := s
            dsimp only at *
            have hya := below_alloc (Below.refl wr.heap.size wr) (.cells #[.int .i64 sa, .int .i64 sb, .int .i64 sc] 38)
            have HB2 := Aside0.mk (HBK.out.below hya HBK.out.lt)
            have HA2 := Aside0.mk (below_step HBA.out hya)
            have hw1 : IntKind.i64.wrap (a + sb) = wrap64 (a + sb) := i64_w _
            have hw2 : IntKind.i64.wrap (b + sc) = wrap64 (b + sc) := i64_w _
            clear hra hrb hya HRA HRB HBK HBA
            go_wp2_with fail
            go_roundw
            case rel => exact ⟨i + 1, wrap64 (a + sb), wrap64 (b + sc), by omega, by first | rfl | rw [hw1], by first | rfl | rw [hw2], by go_num, HRA2, HRB2, HB2, HA2⟩
            case measure => simp [intOf]; omega
          · obtain rfl : i = n1 := by omega
            have hd1 : decide ((i : Int) < (i : Int)) = false := by simp
            have hra := HRA.out
            have hrb := HRB.out
            rw [List.drop_eq_nil_of_le (by have := HN1.out; omega)] at hra hrb
            simp only [sumW] at hra hrb
            have HRA2 := Aside0.mk hra
            have HRB2 := Aside0.mk hrb
            clear hra hrb HRA HRB
            go_wp2_with fail
            go_roundw
            case rel => exact ⟨a, b, rfl, rfl, .inr (.inr ⟨rfl, HRA2.out, HRB2.out⟩), HBK, HBA⟩
            case measure => simp [intOf]
      · go_wp2_with fail
        refine bodyPost_ret (results_tmp2 rfl _ _ _) rfl ?_
        exact ⟨rfl, HBA.out⟩
  · unfold begunP at hr
    rw [if_neg hc] at hr
    injection hr with hra hrb
    subst hra hrb
    have hne : (checkP t l0 l1 fl != 0) = true := bne_iff_ne.2 hc
    generalize checkP t l0 l1 fl = r at *
    clear hc
    go_enter Tryd.func12, Tryd.ntmps12
    go_wp2_with (go_at_call 15; refine HCA.out.mono ?_; rintro e W2 ⟨rfl, hB2⟩; have HA2 := Aside0.mk (below_step HBA.out hB2); clear hB2 HBK HBA hz0 hz1 hz2 hz3)
    refine bodyPost_ret (results_tmp2 rfl _ _ _) rfl ?_
    exact ⟨rfl, HA2.out⟩
end Go.Proofs.YtponmfnegdlppaaDoor.P

end
section
/- Runs of moves on a new book, in plain lists: what holds behind each move. -/
namespace Go.Proofs.YtponmfnegdlppaaDoor.P
open Go.RowKit Go.Proofs.YtponmfnegdlppaaDoorW.PrintWords Go.Proofs.YtponmfnegdlppaaDoorW.PrintLast Go.Proofs.YtponmfnegdlppaaDoorW.PrintMore
set_option linter.unusedVariables false

/-- a sum over all tasks -/
def sumL (f : S38 → Int) (L : List S38) : Int := (L.map f).sum
theorem sumL_set (f : S38 → Int) (L : List S38) (k : Nat) (h : k < L.length) (x : S38) : sumL f (L.set k x) = sumL f L - f L[k] + f x := by
  induction L generalizing k with
  | nil => cases h
  | cons y L ih =>
    cases k with
    | zero => simp [sumL]; omega
    | succ k =>
      have := ih k (by simpa using h)
      simp only [sumL, List.set_cons_succ, List.map_cons, List.sum_cons, List.getElem_cons_succ] at this ⊢
      omega
/-- how many tasks are charged as often as can be -/
def cntT (t : Int) (l : List S38) : Int := ((l.filter fun s => decide (s.f2 = t)).length : Nat)
theorem cntT_cons (t : Int) (s : S38) (l : List S38) : cntT t (s :: l) = (if s.f2 = t then 1 else 0) + cntT t l := by
  unfold cntT
  by_cases h : s.f2 = t
  · rw [List.filter_cons_of_pos (by simpa using h), if_pos h, List.length_cons]; omega
  · rw [List.filter_cons_of_neg (by simpa using h), if_neg h]; omega
theorem cntT_nonneg (t : Int) (l : List S38) : 0 ≤ cntT t l := Int.natCast_nonneg _
theorem scan_eq (t : Int) (held : Bool) : ∀ (l : List S38) (f : Int), (∀ s ∈ l, goodP t held s = true) → scanP t held l f = some (f + cntT t l)
  | [], f, _ => by simp [scanP, cntT]
  | s :: l, f, h => by
    rw [scanP, if_pos (h s (List.mem_cons_self ..)), scan_eq t held l _ (fun x m => h x (List.mem_cons_of_mem _ m)), cntT_cons]
    by_cases e : s.f2 = t
    · rw [if_pos e, if_pos e, Int.add_assoc]
    · rw [if_neg e, if_neg e, Int.zero_add]
theorem check_iff (t : Int) (l0 l1 : List S38) (fl : Bool) : checkP t l0 l1 fl = 0 ↔ (1 ≤ t ∧ t ≤ 16 ∧ l0.length ≤ 256 ∧ 1 ≤ l1.length ∧ l1.length ≤ 65535 ∧ (∀ s ∈ l0, goodP t false s = true) ∧ (∀ s ∈ l1, goodP t true s = true) ∧
    cntT t l0 + cntT t l1 ≤ 1 ∧ fl = decide (cntT t l0 + cntT t l1 = 1)) := by
  constructor
  · intro h
    obtain ⟨q1, q2, q3, q4, q5, q6, q7, f, g, h0, h1, h2, h3⟩ := check_ok h
    rw [scan_eq t false l0 0 q6] at h0
    have e0 := Option.some.inj h0
    rw [scan_eq t true l1 f q7] at h1
    have e1 := Option.some.inj h1
    have e : cntT t l0 + cntT t l1 = g := by omega
    rw [e]
    exact ⟨q1, q2, q3, q4, q5, q6, q7, by omega, h3⟩
  · rintro ⟨q1, q2, q3, q4, q5, q6, q7, q8, q9⟩
    unfold checkP
    rw [if_neg (by omega), if_neg (by omega), if_neg (by omega), if_neg (by omega), if_neg (by omega)]
    unfold scan0
    rw [scan_eq t false l0 0 q6]
    simp only [scan1]
    rw [scan_eq t true l1 _ q7]
    simp only [finP]
    rw [Int.zero_add, if_neg (by rintro (h | h); omega; exact h q9)]
structure INV (t : Int) (l0 l1 : List S38) (fl : Bool) (m r : Nat) (bg ch : Nat → Bool) (s c : Int) : Prop where
  check : checkP t l0 l1 fl = 0
  n0 : l0.length = m
  n1 : l1.length = r
  begun : ∀ (k : Nat) (h : k < (l0 ++ l1).length) (a : Nat), 1 ≤ a → a ≤ 16 → bg (k * 17 + a) = decide ((a : Int) ≤ ((l0 ++ l1)[k]).f1)
  charged : ∀ (k : Nat) (h : k < (l0 ++ l1).length) (a : Nat), 1 ≤ a → a ≤ 16 → ch (k * 17 + a) = decide ((a : Int) ≤ ((l0 ++ l1)[k]).f2)
  starts : s = sumL S38.f1 (l0 ++ l1)
  charges : c = sumL S38.f2 (l0 ++ l1)
/-- a new book, nothing noted -/
theorem INV.start {t : Int} {m r : Nat} (h1 : 1 ≤ t) (h2 : t ≤ 16) (hm : m ≤ 256) (hr : 1 ≤ r) (hr2 : r ≤ 65535) : INV t (List.replicate m z38) (List.replicate r z38) false m r (fun _ => false) (fun _ => false) 0 0 := by
  have g : ∀ held, goodP t held z38 = true := fun held => by unfold goodP z38; simp; omega
  have c0 : ∀ n, cntT t (List.replicate n z38) = 0 := fun n => by
    induction n with
    | zero => rfl
    | succ n ih => rw [List.replicate_succ, cntT_cons, ih]; unfold z38; rw [if_neg (by show ¬ (0 : Int) = t; omega)]; rfl
  have sum0 : ∀ (f : S38 → Int), f z38 = 0 → ∀ n, sumL f (List.replicate n z38) = 0 := fun f hf n => by
    induction n with
    | zero => rfl
    | succ n ih => unfold sumL at ih ⊢; rw [List.replicate_succ, List.map_cons, List.sum_cons, ih, hf]; rfl
  have app : List.replicate m z38 ++ List.replicate r z38 = List.replicate (m + r) z38 := by rw [List.replicate_append_replicate]
  have el : ∀ (k : Nat) (h : k < (List.replicate m z38 ++ List.replicate r z38).length), (List.replicate m z38 ++ List.replicate r z38)[k] = z38 := fun k h => by simp only [app, List.getElem_replicate]
  refine ⟨(check_iff _ _ _ _).2 ⟨h1, h2, by rw [List.length_replicate]; exact hm, by rw [List.length_replicate]; exact hr, by rw [List.length_replicate]; exact hr2, fun s m => ?_, fun s m => ?_, ?_, ?_⟩, List.length_replicate, List.length_replicate, fun k h a h3 h4 => ?_, fun k h a h3 h4 => ?_, ?_, ?_⟩
  · rw [List.eq_of_mem_replicate m]; exact g _
  · rw [List.eq_of_mem_replicate m]; exact g _
  · rw [c0, c0]; decide
  · rw [c0, c0]; rfl
  · rw [el]; exact (decide_eq_false (by show ¬ (a : Int) ≤ 0; omega)).symm
  · rw [el]; exact (decide_eq_false (by show ¬ (a : Int) ≤ 0; omega)).symm
  · rw [app, sum0 _ rfl]
  · rw [app, sum0 _ rfl]
theorem cntT_set (t : Int) (L : List S38) (k : Nat) (h : k < L.length) (x : S38) : cntT t (L.set k x) = cntT t L - (if (L[k]).f2 = t then 1 else 0) + (if x.f2 = t then 1 else 0) := by
  induction L generalizing k with
  | nil => cases h
  | cons y L ih =>
    cases k with
    | zero =>
      rw [List.set_cons_zero, cntT_cons, cntT_cons, List.getElem_cons_zero]
      omega
    | succ k =>
      have := ih k (by simpa using h)
      rw [List.set_cons_succ, cntT_cons, cntT_cons, this, List.getElem_cons_succ]
      omega
/-- A task's state gives way to another: the book, and what is noted, behind it. i: the task's place among all. -/
theorem INV.put {t : Int} {l0 l1 : List S38} {m r : Nat} {bg ch bg' ch' : Nat → Bool} {s c s' c' : Int} {l0' l1' : List S38} {fl' : Bool} (h : INV t l0 l1 false m r bg ch s c) (i : Nat) (hi : i < (l0 ++ l1).length) (x : S38)
    (hL : l0' ++ l1' = (l0 ++ l1).set i x) (hz : l0'.length = l0.length) (hg0 : ∀ y ∈ l0', goodP t false y = true) (hg1 : ∀ y ∈ l1', goodP t true y = true)
    (hn : ¬ ((l0 ++ l1)[i]).f2 = t) (hf : fl' = decide (x.f2 = t))
    (hb : ∀ (k a : Nat), k < m + r → 1 ≤ a → a ≤ 16 → bg' (k * 17 + a) = if k = i then decide ((a : Int) ≤ x.f1) else bg (k * 17 + a))
    (hc : ∀ (k a : Nat), k < m + r → 1 ≤ a → a ≤ 16 → ch' (k * 17 + a) = if k = i then decide ((a : Int) ≤ x.f2) else ch (k * 17 + a))
    (hs : s' = s - ((l0 ++ l1)[i]).f1 + x.f1) (hd : c' = c - ((l0 ++ l1)[i]).f2 + x.f2) : INV t l0' l1' fl' m r bg' ch' s' c' := by
  obtain ⟨q1, q2, q3, q4, q5, q6, q7, q8, q9⟩ := (check_iff _ _ _ _).1 h.check
  have hlen : (l0' ++ l1').length = (l0 ++ l1).length := by rw [hL, List.length_set]
  have hz1 : l1'.length = l1.length := by rw [List.length_append, List.length_append] at hlen; omega
  have happ : ∀ a b : List S38, cntT t (a ++ b) = cntT t a + cntT t b := fun a b => by unfold cntT; rw [List.filter_append, List.length_append]; omega
  have hz0 : cntT t l0 + cntT t l1 = 0 := by
    have p0 := cntT_nonneg t l0
    have p1 := cntT_nonneg t l1
    have : ¬ cntT t l0 + cntT t l1 = 1 := fun e => by rw [e] at q9; cases q9
    omega
  have hcnt : cntT t l0' + cntT t l1' = if x.f2 = t then 1 else 0 := by
    rw [← happ, hL, cntT_set t _ i hi, happ, hz0, if_neg hn]
    omega
  have hmr : (l0 ++ l1).length = m + r := by rw [List.length_append, h.n0, h.n1]
  refine ⟨(check_iff _ _ _ _).2 ⟨q1, q2, by omega, by omega, by omega, hg0, hg1, ?_, ?_⟩, by rw [hz]; exact h.n0, by rw [hz1]; exact h.n1, fun k hk a h1 h2 => ?_, fun k hk a h1 h2 => ?_, ?_, ?_⟩
  · rw [hcnt]; split <;> omega
  · rw [hcnt, hf]
    by_cases e : x.f2 = t
    · rw [if_pos e, decide_eq_true e]; rfl
    · rw [if_neg e, decide_eq_false e]; rfl
  · rw [hb k a (by omega) h1 h2]
    simp only [hL]
    rw [List.getElem_set]
    by_cases e : k = i
    · rw [if_pos e, if_pos e.symm]
    · rw [if_neg e, if_neg (fun q => e q.symm), h.begun k (by omega) a h1 h2]
  · rw [hc k a (by omega) h1 h2]
    simp only [hL]
    rw [List.getElem_set]
    by_cases e : k = i
    · rw [if_pos e, if_pos e.symm]
    · rw [if_neg e, if_neg (fun q => e q.symm), h.charged k (by omega) a h1 h2]
  · rw [hL, sumL_set _ _ i hi, ← h.starts, hs]
  · rw [hL, sumL_set _ _ i hi, ← h.charges, hd]
end Go.Proofs.YtponmfnegdlppaaDoor.P

end
section
/- Behind a Begin. -/
namespace Go.Proofs.YtponmfnegdlppaaDoor.P
open Go.RowKit Go.Proofs.YtponmfnegdlppaaDoorW.PrintWords Go.Proofs.YtponmfnegdlppaaDoorW.PrintLast Go.Proofs.YtponmfnegdlppaaDoorW.PrintMore
set_option linter.unusedVariables false

/-- a task's place among all -/
def place (m : Nat) (k b : Int) : Nat := if k = 0 then b.toNat else m + b.toNat
theorem upd_eq (f : Nat → Bool) (i a k j : Nat) (ha : a ≤ 16) (hj : j ≤ 16) (v : S38 → Int) : upd f (i * 17 + a) (k * 17 + j) = if k = i then (if j = a then true else f (k * 17 + j)) else f (k * 17 + j) := by
  unfold upd
  by_cases h : k = i
  · subst h
    rw [if_pos rfl]
    by_cases h2 : j = a
    · rw [if_pos (by omega), if_pos h2]
    · rw [if_neg (by omega), if_neg h2]
  · rw [if_neg h, if_neg (by omega)]
/-- the task's state in the list of all -/
theorem place_get {t : Int} {l0 l1 : List S38} {m : Nat} {k b : Int} (hm : l0.length = m) (h : (k = 0 ∧ ∃ n : Nat, b = n ∧ n < l0.length) ∨ (k = 1 ∧ ∃ n : Nat, b = n ∧ n < l1.length)) :
    ∃ hi : place m k b < (l0 ++ l1).length, (l0 ++ l1)[place m k b] = stP l0 l1 k b := by
  rcases h with ⟨rfl, n, rfl, hn⟩ | ⟨rfl, n, rfl, hn⟩
  · have e : place m 0 (n : Int) = n := by unfold place; rw [if_pos rfl, Int.toNat_natCast]
    have hi : n < (l0 ++ l1).length := by rw [List.length_append]; omega
    refine ⟨by rw [e]; exact hi, ?_⟩
    simp only [e]
    rw [List.getElem_append_left hn]
    unfold stP
    rw [if_pos rfl, rd38 l0 n hn]
  · have e : place m 1 (n : Int) = m + n := by unfold place; rw [if_neg (by decide), Int.toNat_natCast]
    have hi : m + n < (l0 ++ l1).length := by rw [List.length_append]; omega
    refine ⟨by rw [e]; exact hi, ?_⟩
    simp only [e]
    rw [List.getElem_append_right (by omega)]
    unfold stP
    rw [if_neg (by decide), rd38 l1 n hn]
    congr 1
    omega
/-- two lists laid together, one of them changed at a task's place -/
theorem place_set {l0 l1 : List S38} {m : Nat} {k b : Int} (hm : l0.length = m) (h : (k = 0 ∧ ∃ n : Nat, b = n ∧ n < l0.length) ∨ (k = 1 ∧ ∃ n : Nat, b = n ∧ n < l1.length)) (x : S38) :
    (if k = 0 then l0.set b.toNat x else l0) ++ (if k = 0 then l1 else l1.set b.toNat x) = (l0 ++ l1).set (place m k b) x := by
  rcases h with ⟨rfl, n, rfl, hn⟩ | ⟨rfl, n, rfl, hn⟩
  · unfold place
    rw [if_pos rfl, if_pos rfl, if_pos rfl, Int.toNat_natCast, List.set_append_left _ _ hn]
  · unfold place
    rw [if_neg (by decide), if_neg (by decide), if_neg (by decide), Int.toNat_natCast, List.set_append_right _ _ (by omega), ← hm, Nat.add_sub_cancel_left]
theorem mem_set_good {t : Int} {held : Bool} {l : List S38} {n : Nat} {x : S38} (h : ∀ y ∈ l, goodP t held y = true) (hx : goodP t held x = true) : ∀ y ∈ l.set n x, goodP t held y = true := by
  intro y m
  rcases List.mem_or_eq_of_mem_set m with m | rfl
  · exact h y m
  · exact hx
/-- what a Begin that goes well is -/
theorem begin_form {t : Int} {l0 l1 : List S38} {fl : Bool} {k b t' : Int} {l0' l1' : List S38} {fl' : Bool} {a : Int} {fr : Bool} (hb : beginP t l0 l1 fl k b = (t', l0', l1', fl', a, fr, 0)) :
    knownP t l0 l1 fl [⟨k, b⟩] = 0 ∧ fl = false ∧ t' = t ∧ fl' = false ∧ ((stP l0 l1 k b).f0 = 0 ∧ fr = true ∧ a = (stP l0 l1 k b).f1 + 1 ∨ (stP l0 l1 k b).f0 = 2 ∧ fr = false ∧ a = (stP l0 l1 k b).f1) ∧
    l0' = (if k = 0 then l0.set b.toNat ⟨1, a, (stP l0 l1 k b).f2⟩ else l0) ∧ l1' = (if k = 0 then l1 else l1.set b.toNat ⟨1, a, (stP l0 l1 k b).f2⟩) := by
  unfold beginP at hb
  by_cases hk : knownP t l0 l1 fl [⟨k, b⟩] = 0
  · rw [if_pos hk] at hb
    by_cases h1 : fl = true ∨ ((stP l0 l1 k b).f0 ≠ 0 ∧ (stP l0 l1 k b).f0 ≠ 2) ∨ (k = 1 ∧ allP l0 = false)
    · rw [if_pos h1] at hb
      simp only [Prod.mk.injEq] at hb
      exact absurd hb.2.2.2.2.2.2 (by decide)
    · rw [if_neg h1] at hb
      have hf : fl = false := by cases fl with | false => rfl | true => exact absurd (.inl rfl) h1
      refine ⟨hk, hf, ?_⟩
      by_cases h0 : (stP l0 l1 k b).f0 = 0
      · rw [if_pos h0] at hb
        unfold beginS at hb
        by_cases hz : k = 0
        · rw [if_pos hz] at hb
          simp only [Prod.mk.injEq] at hb
          obtain ⟨rfl, rfl, rfl, rfl, rfl, rfl, _⟩ := hb
          exact ⟨rfl, rfl, .inl ⟨h0, rfl, rfl⟩, by rw [if_pos hz], by rw [if_pos hz]⟩
        · rw [if_neg hz] at hb
          simp only [Prod.mk.injEq] at hb
          obtain ⟨rfl, rfl, rfl, rfl, rfl, rfl, _⟩ := hb
          exact ⟨rfl, rfl, .inl ⟨h0, rfl, rfl⟩, by rw [if_neg hz], by rw [if_neg hz]⟩
      · have h2 : (stP l0 l1 k b).f0 = 2 := by
          by_cases q : (stP l0 l1 k b).f0 = 2
          · exact q
          · exact absurd (.inr (.inl ⟨h0, q⟩)) h1
        rw [if_neg h0] at hb
        unfold beginS at hb
        by_cases hz : k = 0
        · rw [if_pos hz] at hb
          simp only [Prod.mk.injEq] at hb
          obtain ⟨rfl, rfl, rfl, rfl, rfl, rfl, _⟩ := hb
          exact ⟨rfl, rfl, .inr ⟨h2, rfl, rfl⟩, by rw [if_pos hz], by rw [if_pos hz]⟩
        · rw [if_neg hz] at hb
          simp only [Prod.mk.injEq] at hb
          obtain ⟨rfl, rfl, rfl, rfl, rfl, rfl, _⟩ := hb
          exact ⟨rfl, rfl, .inr ⟨h2, rfl, rfl⟩, by rw [if_neg hz], by rw [if_neg hz]⟩
  · rw [if_neg hk] at hb
    simp only [Prod.mk.injEq] at hb
    exact absurd hb.2.2.2.2.2.2 hk
end Go.Proofs.YtponmfnegdlppaaDoor.P

end
section
/- Behind any move: what the notes want, and what holds. -/
namespace Go.Proofs.YtponmfnegdlppaaDoor.P
open Go.RowKit Go.Proofs.YtponmfnegdlppaaDoorW.PrintWords Go.Proofs.YtponmfnegdlppaaDoorW.PrintLast Go.Proofs.YtponmfnegdlppaaDoorW.PrintMore
set_option linter.unusedVariables false

theorem cntT_zero {t : Int} {l : List S38} (h : cntT t l = 0) : ∀ y ∈ l, y.f2 ≠ t := by
  intro y m e
  unfold cntT at h
  have : 0 < (l.filter fun s => decide (s.f2 = t)).length := List.length_pos_of_mem (List.mem_filter.2 ⟨m, decide_eq_true e⟩)
  omega
theorem goodP_of {t : Int} {held : Bool} {s : S38} (h1 : s.f0 = 0 ∨ s.f0 = 1 ∨ s.f0 = 2 ∧ held = true ∨ s.f0 = 3) (h3 : s.f0 = 0 → s.f1 = s.f2) (h4 : s.f0 ≠ 0 → s.f1 = s.f2 + 1) (h5 : 0 ≤ s.f2) (h6 : s.f2 ≤ t) (h7 : s.f2 = t → s.f0 = 0) : goodP t held s = true := by
  unfold goodP
  simp only [Bool.and_eq_true, Bool.or_eq_true, Bool.not_eq_true', decide_eq_false_iff_not, decide_eq_true_eq]
  refine ⟨by omega, by omega, ?_, by omega, by omega, ?_, ?_⟩
  · rcases h1 with h | h | h | h
    · exact .inr (by omega)
    · exact .inr (by omega)
    · exact .inl h.2
    · exact .inr (by omega)
  · by_cases e : s.f0 = 0
    · rw [if_pos e, h3 e]; omega
    · rw [if_neg e]; exact h4 e
  · by_cases e : s.f2 = t
    · exact .inr (h7 e)
    · exact .inl e
/-- what is known of a task of a book that has not failed -/
theorem INV.task {t : Int} {l0 l1 : List S38} {m r : Nat} {bg ch : Nat → Bool} {s c k b : Int} (h : INV t l0 l1 false m r bg ch s c) (hT : (k = 0 ∧ ∃ n : Nat, b = n ∧ n < l0.length) ∨ (k = 1 ∧ ∃ n : Nat, b = n ∧ n < l1.length)) :
    ∃ x, x = stP l0 l1 k b ∧ (x.f0 = 0 ∨ x.f0 = 1 ∨ (x.f0 = 2 ∧ k ≠ 0) ∨ x.f0 = 3) ∧ (x.f0 = 0 → x.f1 = x.f2) ∧ (x.f0 ≠ 0 → x.f1 = x.f2 + 1) ∧ 0 ≤ x.f2 ∧ x.f2 < t ∧ t ≤ 16 := by
  obtain ⟨q1, q2, q3, q4, q5, q6, q7, q8, q9⟩ := (check_iff _ _ _ _).1 h.check
  have p0 := cntT_nonneg t l0
  have p1 := cntT_nonneg t l1
  have hz : ¬ cntT t l0 + cntT t l1 = 1 := fun e => by rw [e] at q9; cases q9
  refine ⟨_, rfl, ?_⟩
  rcases hT with ⟨rfl, n, rfl, hn⟩ | ⟨rfl, n, rfl, hn⟩
  · unfold stP
    rw [if_pos rfl]
    obtain ⟨g1, g2, g3, g4, g5, g6, g7⟩ := good_state (q6 _ (rd_mem hn))
    have h2 := g2 rfl
    have h3 := cntT_zero (t := t) (l := l0) (by omega) _ (rd_mem hn)
    exact ⟨by omega, g3, g4, g5, by omega, q2⟩
  · unfold stP
    rw [if_neg (by decide)]
    obtain ⟨g1, g2, g3, g4, g5, g6, g7⟩ := good_state (q7 _ (rd_mem hn))
    have h3 := cntT_zero (t := t) (l := l1) (by omega) _ (rd_mem hn)
    exact ⟨by omega, g3, g4, g5, by omega, q2⟩
/-- one task's state gives way -/
theorem INV.move {t : Int} {l0 l1 : List S38} {fl' : Bool} {m r : Nat} {bg ch bg' ch' : Nat → Bool} {s c s' c' k b : Int} (h : INV t l0 l1 false m r bg ch s c) (hT : (k = 0 ∧ ∃ n : Nat, b = n ∧ n < l0.length) ∨ (k = 1 ∧ ∃ n : Nat, b = n ∧ n < l1.length)) (x : S38)
    (hx0 : k = 0 → goodP t false x = true) (hx1 : k ≠ 0 → goodP t true x = true) (hn : (stP l0 l1 k b).f2 ≠ t) (hf : fl' = decide (x.f2 = t))
    (hb : ∀ (k' a : Nat), k' < m + r → 1 ≤ a → a ≤ 16 → bg' (k' * 17 + a) = if k' = place m k b then decide ((a : Int) ≤ x.f1) else bg (k' * 17 + a))
    (hc : ∀ (k' a : Nat), k' < m + r → 1 ≤ a → a ≤ 16 → ch' (k' * 17 + a) = if k' = place m k b then decide ((a : Int) ≤ x.f2) else ch (k' * 17 + a))
    (hs : s' = s - (stP l0 l1 k b).f1 + x.f1) (hd : c' = c - (stP l0 l1 k b).f2 + x.f2) :
    INV t (if k = 0 then l0.set b.toNat x else l0) (if k = 0 then l1 else l1.set b.toNat x) fl' m r bg' ch' s' c' := by
  obtain ⟨hi, hg⟩ := place_get h.n0 hT (t := t)
  obtain ⟨q1, q2, q3, q4, q5, q6, q7, _⟩ := (check_iff _ _ _ _).1 h.check
  refine h.put (place m k b) hi x (place_set h.n0 hT x) ?_ ?_ ?_ (by rw [hg]; exact hn) hf hb hc (by rw [hg]; exact hs) (by rw [hg]; exact hd)
  · by_cases e : k = 0
    · rw [if_pos e, List.length_set]
    · rw [if_neg e]
  · by_cases e : k = 0
    · rw [if_pos e]; exact mem_set_good (t := t) q6 (hx0 e)
    · rw [if_neg e]; exact q6
  · by_cases e : k = 0
    · rw [if_pos e]; exact q7
    · rw [if_neg e]; exact mem_set_good (t := t) q7 (hx1 e)
/-- what is noted of a task, in the place's words -/
theorem INV.noted {t : Int} {l0 l1 : List S38} {fl : Bool} {m r : Nat} {bg ch : Nat → Bool} {s c k b : Int} (h : INV t l0 l1 fl m r bg ch s c) (hT : (k = 0 ∧ ∃ n : Nat, b = n ∧ n < l0.length) ∨ (k = 1 ∧ ∃ n : Nat, b = n ∧ n < l1.length)) :
    ∀ a : Nat, 1 ≤ a → a ≤ 16 → bg (place m k b * 17 + a) = decide ((a : Int) ≤ (stP l0 l1 k b).f1) ∧ ch (place m k b * 17 + a) = decide ((a : Int) ≤ (stP l0 l1 k b).f2) := by
  obtain ⟨hi, hg⟩ := place_get h.n0 hT (t := t)
  intro a h1 h2
  rw [← hg]
  exact ⟨h.begun _ hi a h1 h2, h.charged _ hi a h1 h2⟩
theorem bdec {p q : Prop} [Decidable p] [Decidable q] (h : p ↔ q) : decide p = decide q := by
  by_cases e : p
  · rw [decide_eq_true e, decide_eq_true (h.1 e)]
  · rw [decide_eq_false e, decide_eq_false (fun x => e (h.2 x))]
/-- Behind a Begin that goes well. -/
theorem INV.begin {t : Int} {l0 l1 : List S38} {fl : Bool} {m r : Nat} {bg ch : Nat → Bool} {s c k b t' : Int} {l0' l1' : List S38} {fl' : Bool} {a : Int} {fr : Bool} (h : INV t l0 l1 fl m r bg ch s c) (hb : beginP t l0 l1 fl k b = (t', l0', l1', fl', a, fr, 0)) :
    t' = t ∧ ∃ n : Nat, a = n ∧ 1 ≤ n ∧ n ≤ 16 ∧ bg (place m k b * 17 + n) = (!fr) ∧ (1 < n → bg (place m k b * 17 + (n - 1)) = true) ∧ (fr = true → 1 < n → ch (place m k b * 17 + (n - 1)) = true) ∧
      INV t l0' l1' fl' m r (upd bg (place m k b * 17 + n)) ch (if fr = true then s + 1 else s) c ∧ ∃ x, l0' = (if k = 0 then l0.set b.toNat x else l0) ∧ l1' = (if k = 0 then l1 else l1.set b.toNat x) ∧ x.f1 = a ∧ x.f0 = 1 ∧ (stP l0 l1 k b).f0 ≠ 3 ∧ (stP l0 l1 k b).f0 ≠ 1 ∧ fl' = false := by
  obtain ⟨hk, rfl, rfl, rfl, hcase, e0, e1⟩ := begin_form hb
  obtain ⟨hc, hT⟩ := known_one hk
  obtain ⟨y, hy, g1, g3, g4, g5, g6, g7⟩ := h.task hT
  have hnt := h.noted hT
  rw [← hy] at hcase e0 e1 hnt ⊢
  have hf1 : ∃ n : Nat, a = n ∧ 1 ≤ n ∧ n ≤ 16 := by
    rcases hcase with ⟨z, _, rfl⟩ | ⟨z, _, rfl⟩
    · have := g3 z
      exact ⟨(y.f1 + 1).toNat, by omega, by omega, by omega⟩
    · have := g4 (by omega)
      exact ⟨y.f1.toNat, by omega, by omega, by omega⟩
  obtain ⟨n, rfl, hn1, hn2⟩ := hf1
  refine ⟨rfl, n, rfl, hn1, hn2, ?_, ?_, ?_, ?_, ⟨1, n, y.f2⟩, e0, e1, rfl, rfl, by omega, by omega, rfl⟩
  · rw [(hnt n hn1 hn2).1]
    rcases hcase with ⟨z, rfl, w⟩ | ⟨z, rfl, w⟩
    · exact decide_eq_false (by omega)
    · exact decide_eq_true (by omega)
  · intro h1
    rw [(hnt (n - 1) (by omega) (by omega)).1]
    exact decide_eq_true (by rcases hcase with ⟨z, _, w⟩ | ⟨z, _, w⟩ <;> omega)
  · intro h0 h1
    rw [(hnt (n - 1) (by omega) (by omega)).2]
    rcases hcase with ⟨z, _, w⟩ | ⟨z, w, _⟩
    · have := g3 z; exact decide_eq_true (by omega)
    · rw [h0] at w; cases w
  · have hgd : ∀ held, goodP t' held ⟨1, n, y.f2⟩ = true := fun held => goodP_of (.inr (.inl rfl)) (fun q => absurd q (by show ¬ (1 : Int) = 0; decide)) (fun _ => by
      show (n : Int) = y.f2 + 1
      rcases hcase with ⟨z, _, w⟩ | ⟨z, _, w⟩
      · have := g3 z; omega
      · have := g4 (by omega); omega) g5 (by show y.f2 ≤ t'; omega) (fun q => by have q : y.f2 = t' := q; omega)
    rw [e0, e1]
    refine h.move hT ⟨1, n, y.f2⟩ (fun _ => hgd _) (fun _ => hgd _) (by rw [← hy]; omega) (decide_eq_false (by show ¬ y.f2 = t'; omega)).symm ?_ ?_ ?_ ?_
    · intro k' j hk' h1 h2
      rw [upd_eq _ _ _ _ _ hn2 h2 S38.f1]
      by_cases e : k' = place m k b
      · rw [if_pos e, if_pos e, e]
        by_cases ej : j = n
        · rw [if_pos ej, ej]; exact (decide_eq_true (by show (n : Int) ≤ n; omega)).symm
        · rw [if_neg ej, (hnt j h1 h2).1]
          exact bdec (by show (j : Int) ≤ y.f1 ↔ (j : Int) ≤ n; rcases hcase with ⟨z, _, w⟩ | ⟨z, _, w⟩ <;> omega)
      · rw [if_neg e, if_neg e]
    · intro k' j hk' h1 h2
      by_cases e : k' = place m k b
      · rw [if_pos e, e, (hnt j h1 h2).2]
      · rw [if_neg e]
    · rw [← hy]
      rcases hcase with ⟨z, rfl, w⟩ | ⟨z, rfl, w⟩
      · rw [if_pos rfl]; show s + 1 = s - y.f1 + n; omega
      · rw [if_neg (by decide)]; show s = s - y.f1 + n; omega
    · rw [← hy]; show c = c - y.f2 + y.f2; omega
/-- what an end that goes well is -/
theorem end_form {t : Int} {l0 l1 : List S38} {fl : Bool} {k b t' : Int} {u : S38 → S38} {uf : S38 → Bool} {l0' l1' : List S38} {fl' : Bool} (h : endP t l0 l1 fl k b u uf = (t', l0', l1', fl', 0)) :
    knownP t l0 l1 fl [⟨k, b⟩] = 0 ∧ fl = false ∧ t' = t ∧ (stP l0 l1 k b).f0 = 1 ∧ fl' = uf (stP l0 l1 k b) ∧ l0' = (if k = 0 then l0.set b.toNat (u (stP l0 l1 k b)) else l0) ∧ l1' = (if k = 0 then l1 else l1.set b.toNat (u (stP l0 l1 k b))) := by
  unfold endP at h
  by_cases hk : knownP t l0 l1 fl [⟨k, b⟩] = 0
  · rw [if_pos hk] at h
    by_cases h1 : fl = true ∨ (stP l0 l1 k b).f0 ≠ 1
    · rw [if_pos h1] at h
      simp only [Prod.mk.injEq] at h
      exact absurd h.2.2.2.2 (by decide)
    · rw [if_neg h1] at h
      have hf : fl = false := by cases fl with | false => rfl | true => exact absurd (.inl rfl) h1
      have h1' : (stP l0 l1 k b).f0 = 1 := by
        by_cases q : (stP l0 l1 k b).f0 = 1
        · exact q
        · exact absurd (.inr q) h1
      by_cases hz : k = 0
      · rw [if_pos hz] at h
        simp only [Prod.mk.injEq] at h
        obtain ⟨rfl, rfl, rfl, rfl, _⟩ := h
        exact ⟨hk, hf, rfl, h1', rfl, by rw [if_pos hz], by rw [if_pos hz]⟩
      · rw [if_neg hz] at h
        simp only [Prod.mk.injEq] at h
        obtain ⟨rfl, rfl, rfl, rfl, _⟩ := h
        exact ⟨hk, hf, rfl, h1', rfl, by rw [if_neg hz], by rw [if_neg hz]⟩
  · rw [if_neg hk] at h
    simp only [Prod.mk.injEq] at h
    exact absurd h.2.2.2.2 hk
/-- Behind a running attempt that is done (state 3) or waits (state 2). -/
theorem INV.still {t : Int} {l0 l1 : List S38} {fl : Bool} {m r : Nat} {bg ch : Nat → Bool} {s c k b t' : Int} {v : Int} {l0' l1' : List S38} {fl' : Bool} (h : INV t l0 l1 fl m r bg ch s c) (hv : v = 3 ∨ v = 2 ∧ k ≠ 0) (hb : endP t l0 l1 fl k b (fun s => ⟨v, s.f1, s.f2⟩) (fun _ => false) = (t', l0', l1', fl', 0)) :
    t' = t ∧ fl' = false ∧ INV t l0' l1' fl' m r bg ch s c ∧ ∃ x, l0' = (if k = 0 then l0.set b.toNat x else l0) ∧ l1' = (if k = 0 then l1 else l1.set b.toNat x) ∧ (stP l0 l1 k b).f0 = 1 ∧ x = ⟨v, (stP l0 l1 k b).f1, (stP l0 l1 k b).f2⟩ := by
  obtain ⟨hk, rfl, rfl, h1, rfl, e0, e1⟩ := end_form hb
  obtain ⟨hc, hT⟩ := known_one hk
  obtain ⟨y, hy, g1, g3, g4, g5, g6, g7⟩ := h.task hT
  have hnt := h.noted hT
  rw [← hy] at h1 e0 e1 hnt ⊢
  refine ⟨rfl, rfl, ?_, _, e0, e1, h1, rfl⟩
  have g4' := g4 (by omega)
  have hgd : ∀ held, (v = 3 ∨ v = 2 ∧ held = true) → goodP t' held ⟨v, y.f1, y.f2⟩ = true := fun held hh => goodP_of (by
      rcases hh with hh | hh
      · exact .inr (.inr (.inr hh))
      · exact .inr (.inr (.inl hh))) (fun q => absurd (show v = 0 from q) (by rcases hv with e | e <;> omega)) (fun _ => g4') g5 (Int.le_of_lt g6) (fun q => absurd (show y.f2 = t' from q) (by omega))
  rw [e0, e1]
  refine h.move hT ⟨v, y.f1, y.f2⟩ (fun e => hgd false (.inl (hv.resolve_right (fun q => q.2 e)))) (fun e => hgd true (by rcases hv with q | q; exact .inl q; exact .inr ⟨q.1, rfl⟩)) (by rw [← hy]; omega) (decide_eq_false (by show ¬ y.f2 = t'; omega)).symm ?_ ?_ ?_ ?_
  · intro k' j hk' h1 h2
    by_cases e : k' = place m k b
    · rw [if_pos e, e, (hnt j h1 h2).1]
    · rw [if_neg e]
  · intro k' j hk' h1 h2
    by_cases e : k' = place m k b
    · rw [if_pos e, e, (hnt j h1 h2).2]
    · rw [if_neg e]
  · rw [← hy]; show s = s - y.f1 + y.f1; omega
  · rw [← hy]; show c = c - y.f2 + y.f2; omega
/-- A task in state 1 or 3 is charged. -/
theorem INV.charge {t : Int} {l0 l1 : List S38} {m r : Nat} {bg ch : Nat → Bool} {s c k b : Int} (h : INV t l0 l1 false m r bg ch s c) (hT : (k = 0 ∧ ∃ n : Nat, b = n ∧ n < l0.length) ∨ (k = 1 ∧ ∃ n : Nat, b = n ∧ n < l1.length)) (h1 : (stP l0 l1 k b).f0 = 1 ∨ (stP l0 l1 k b).f0 = 3) :
    ∃ n : Nat, (stP l0 l1 k b).f1 = n ∧ 1 ≤ n ∧ n ≤ 16 ∧ bg (place m k b * 17 + n) = true ∧ ch (place m k b * 17 + n) = false ∧
      INV t (if k = 0 then l0.set b.toNat ⟨0, (stP l0 l1 k b).f1, (stP l0 l1 k b).f2 + 1⟩ else l0) (if k = 0 then l1 else l1.set b.toNat ⟨0, (stP l0 l1 k b).f1, (stP l0 l1 k b).f2 + 1⟩) (decide ((stP l0 l1 k b).f2 + 1 = t)) m r bg (upd ch (place m k b * 17 + n)) s (c + 1) := by
  obtain ⟨y, hy, g1, g3, g4, g5, g6, g7⟩ := h.task hT
  have hnt := h.noted hT
  rw [← hy] at h1 hnt ⊢
  have g4' := g4 (by omega)
  obtain ⟨n, hn, hn1, hn2⟩ : ∃ n : Nat, y.f1 = n ∧ 1 ≤ n ∧ n ≤ 16 := ⟨y.f1.toNat, by omega, by omega, by omega⟩
  refine ⟨n, hn, hn1, hn2, ?_, ?_, ?_⟩
  · rw [(hnt n hn1 hn2).1]; exact decide_eq_true (by omega)
  · rw [(hnt n hn1 hn2).2]; exact decide_eq_false (by omega)
  have hgd : ∀ held, goodP t held ⟨0, y.f1, y.f2 + 1⟩ = true := fun held => goodP_of (.inl rfl) (fun _ => g4') (fun q => absurd rfl q) (by show 0 ≤ y.f2 + 1; omega) (by show y.f2 + 1 ≤ t; omega) (fun _ => rfl)
  refine h.move hT ⟨0, y.f1, y.f2 + 1⟩ (fun _ => hgd _) (fun _ => hgd _) (by rw [← hy]; omega) rfl ?_ ?_ ?_ ?_
  · intro k' j hk' h1 h2
    by_cases e : k' = place m k b
    · rw [if_pos e, e, (hnt j h1 h2).1]
    · rw [if_neg e]
  · intro k' j hk' h1 h2
    rw [upd_eq _ _ _ _ _ hn2 h2 S38.f1]
    by_cases e : k' = place m k b
    · rw [if_pos e, if_pos e, e]
      by_cases ej : j = n
      · rw [if_pos ej, ej]; exact (decide_eq_true (by show (n : Int) ≤ y.f2 + 1; omega)).symm
      · rw [if_neg ej, (hnt j h1 h2).2]
        exact bdec (by show (j : Int) ≤ y.f2 ↔ (j : Int) ≤ y.f2 + 1; omega)
    · rw [if_neg e, if_neg e]
  · rw [← hy]; show s = s - y.f1 + y.f1; omega
  · rw [← hy]; show c + 1 = c - y.f2 + (y.f2 + 1); omega
end Go.Proofs.YtponmfnegdlppaaDoor.P

end
section
/- Numbers out of a range, a task by its place: in plain numbers. -/
namespace Go.Proofs.YtponmfnegdlppaaDoor.P
open Go.RowKit Go.Proofs.YtponmfnegdlppaaDoorW.PrintWords Go.Proofs.YtponmfnegdlppaaDoorW.PrintLast Go.Proofs.YtponmfnegdlppaaDoorW.PrintMore
set_option linter.unusedVariables false

/-- the number that few tells -/
def fewP (n lo hi : Int) : Int := if Int.tmod n (hi - lo + 1) < 0 then lo + (Int.tmod n (hi - lo + 1) + hi - lo + 1) else lo + Int.tmod n (hi - lo + 1)
theorem fewP_in (n lo hi : Int) (h : lo ≤ hi) : lo ≤ fewP n lo hi ∧ fewP n lo hi ≤ hi := by
  unfold fewP
  have h1 : Int.tmod n (hi - lo + 1) < hi - lo + 1 := Int.tmod_lt_of_pos n (by omega)
  have h2 : -(hi - lo + 1) < Int.tmod n (hi - lo + 1) := by
    have := Int.tmod_lt_of_pos (-n) (show 0 < hi - lo + 1 by omega)
    rw [Int.neg_tmod] at this
    omega
  generalize Int.tmod n (hi - lo + 1) = k at h1 h2 ⊢
  split <;> omega
theorem w64 {n : Int} (h1 : -1000000 ≤ n) (h2 : n ≤ 1000000) : wrap64 n = n := by unfold wrap64; omega
theorem few_eq (n lo hi : Int) (h1 : 0 ≤ lo) (h : lo ≤ hi) (h2 : hi ≤ 1000) : winnowlaw19_few.f n lo hi = some (fewP n lo hi) := by
  unfold winnowlaw19_few.f
  rw [w64 (n := hi - lo) (by omega) (by omega), w64 (n := hi - lo + 1) (by omega) (by omega), if_neg (by omega)]
  have g1 : Int.tmod n (hi - lo + 1) < hi - lo + 1 := Int.tmod_lt_of_pos n (by omega)
  have g2 : -(hi - lo + 1) < Int.tmod n (hi - lo + 1) := by
    have := Int.tmod_lt_of_pos (-n) (show 0 < hi - lo + 1 by omega)
    rw [Int.neg_tmod] at this
    omega
  unfold fewP
  generalize Int.tmod n (hi - lo + 1) = k at g1 g2 ⊢
  by_cases e : k < 0
  · rw [if_pos e, if_pos e, w64 (n := k + hi) (by omega) (by omega), w64 (n := k + hi - lo) (by omega) (by omega), w64 (n := k + hi - lo + 1) (by omega) (by omega), w64 (by omega) (by omega)]
  · rw [if_neg e, if_neg e, w64 (by omega) (by omega)]
/-- the task at a place among all -/
def pickK (who : Int) (m r : Nat) : Int := if fewP who 0 ((m : Int) + r - 1) < m then 0 else 1
def pickB (who : Int) (m r : Nat) : Int := if fewP who 0 ((m : Int) + r - 1) < m then fewP who 0 ((m : Int) + r - 1) else fewP who 0 ((m : Int) + r - 1) - m
theorem picked_eq (who : Int) (m r : Nat) (hm : m ≤ 6) (hr : 1 ≤ r) (hr2 : r ≤ 6) : winnowlaw19_picked.f who m r = some (pickK who m r, pickB who m r) := by
  unfold winnowlaw19_picked.f pickK pickB
  rw [w64 (n := (m : Int) + r) (by omega) (by omega), w64 (n := (m : Int) + r - 1) (by omega) (by omega), few_eq _ _ _ (by omega) (by omega) (by omega)]
  have h := fewP_in who 0 ((m : Int) + r - 1) (by omega)
  generalize fewP who 0 ((m : Int) + r - 1) = k at h ⊢
  simp only [Option.bind_some]
  by_cases e : k < (m : Int)
  · rw [if_pos e, if_pos e, if_pos e]
  · rw [if_neg e, if_neg e, if_neg e, w64 (by omega) (by omega)]
theorem pick_in (who : Int) (m r : Nat) (hr : 1 ≤ r) : (pickK who m r = 0 ∧ ∃ n : Nat, pickB who m r = n ∧ n < m) ∨ (pickK who m r = 1 ∧ ∃ n : Nat, pickB who m r = n ∧ n < r) := by
  unfold pickK pickB
  have h := fewP_in who 0 ((m : Int) + r - 1) (by omega)
  generalize fewP who 0 ((m : Int) + r - 1) = k at h ⊢
  by_cases e : k < (m : Int)
  · rw [if_pos e, if_pos e]
    exact .inl ⟨rfl, k.toNat, by omega, by omega⟩
  · rw [if_neg e, if_neg e]
    exact .inr ⟨rfl, (k - m).toNat, by omega, by omega⟩
theorem number_eq (k b : Int) (m r : Nat) (hm : m ≤ 6) (hr2 : r ≤ 6) (h : (k = 0 ∧ ∃ n : Nat, b = n ∧ n < m) ∨ (k = 1 ∧ ∃ n : Nat, b = n ∧ n < r)) : winnowlaw19_number.f k b m = some ((place m k b : Nat) : Int) ∧ place m k b < 12 := by
  unfold winnowlaw19_number.f place
  rcases h with ⟨rfl, n, rfl, hn⟩ | ⟨rfl, n, rfl, hn⟩
  · rw [if_pos rfl, if_pos rfl, Int.toNat_natCast]
    exact ⟨rfl, by omega⟩
  · rw [if_neg (by decide), if_neg (by decide), Int.toNat_natCast, w64 (by omega) (by omega)]
    exact ⟨by congr 1, by omega⟩
theorem attempt_eq (t : Int) (l0 l1 : List S38) (fl : Bool) (k b : Int) (h : (k = 0 ∧ ∃ n : Nat, b = n ∧ n < l0.length) ∨ (k = 1 ∧ ∃ n : Nat, b = n ∧ n < l1.length)) : winnowlaw19_attempt.f t l0 l1 fl k b = some (stP l0 l1 k b).f1 := by
  unfold winnowlaw19_attempt.f stP
  rcases h with ⟨rfl, n, rfl, hn⟩ | ⟨rfl, n, rfl, hn⟩
  · rw [if_pos rfl, if_pos rfl, if_pos (by omega), if_pos (by omega)]
  · rw [if_neg (show ¬ (1 : Int) = 0 by decide), if_neg (show ¬ (1 : Int) = 0 by decide), if_pos (by omega), if_pos (by omega)]
theorem sized_eq (t : Int) (l0 l1 : List S38) (fl : Bool) (m r : Nat) (h0 : l0.length = m) (h1 : l1.length = r) : winnowlaw19_sized.f t l0 l1 fl m r = some true := by
  unfold winnowlaw19_sized.f
  rw [if_pos (by omega), beq_iff_eq.2 (by omega)]
/-- what a move leaves as it was -/
structure Stays (o tk tb : Int) (mt rt : Nat) (fl : Bool) (l0 l1 l0' l1' : List S38) (fl' : Bool) : Prop where
  maps : ∀ (k : Nat) (h : k < l0.length) (h' : k < l0'.length), ¬ (o ≠ 3 ∧ tk = 0 ∧ tb = k ∨ o = 3 ∧ mt = k) → l0'[k] = l0[k]
  done : ∀ (k : Nat) (h : k < l0.length) (h' : k < l0'.length), (l0[k]).f0 = 3 → (l0'[k]).f0 ≠ 3 → o = 3 ∧ (l0'[k]).f2 = (l0[k]).f2 + 1
  reds : ∀ (k : Nat) (h : k < l1.length) (h' : k < l1'.length), ¬ (o ≠ 3 ∧ tk = 1 ∧ tb = k ∨ o = 3 ∧ rt = k) → l1'[k] = l1[k]
  rdone : ∀ (k : Nat) (h : k < l1.length) (h' : k < l1'.length), (l1[k]).f0 = 3 → l1'[k] = l1[k]
  failed : fl = true → l0' = l0 ∧ l1' = l1 ∧ fl' = true
theorem Stays.same (o tk tb : Int) (mt rt : Nat) (fl : Bool) (l0 l1 : List S38) : Stays o tk tb mt rt fl l0 l1 l0 l1 fl :=
  ⟨fun _ _ _ _ => rfl, fun _ _ _ h h' => absurd h h', fun _ _ _ _ => rfl, fun _ _ _ _ => rfl, fun h => ⟨rfl, rfl, h⟩⟩
/-- one task's state, not done, gives way -/
theorem Stays.one {o tk tb : Int} {mt rt : Nat} {l0 l1 : List S38} {fl' : Bool} (ho : o ≠ 3) (hT : (tk = 0 ∧ ∃ n : Nat, tb = n ∧ n < l0.length) ∨ (tk = 1 ∧ ∃ n : Nat, tb = n ∧ n < l1.length)) (x : S38) (hn : (stP l0 l1 tk tb).f0 ≠ 3) :
    Stays o tk tb mt rt false l0 l1 (if tk = 0 then l0.set tb.toNat x else l0) (if tk = 0 then l1 else l1.set tb.toNat x) fl' := by
  rcases hT with ⟨rfl, n, rfl, hn'⟩ | ⟨rfl, n, rfl, hn'⟩
  · simp only [if_pos, Int.toNat_natCast]
    unfold stP at hn
    rw [if_pos rfl, rd38 l0 n hn'] at hn
    refine ⟨fun k h h' hne => ?_, fun k h h' q q' => ?_, fun _ _ _ _ => rfl, fun _ _ _ _ => rfl, fun h => by cases h⟩
    · rw [List.getElem_set_ne (fun e => hne (.inl ⟨ho, rfl, by rw [e]⟩))]
    · by_cases e : n = k
      · subst e; exact absurd q hn
      · rw [List.getElem_set_ne e] at q'; exact absurd q q'
  · simp only [if_neg (show ¬ (1 : Int) = 0 by decide), Int.toNat_natCast]
    unfold stP at hn
    rw [if_neg (by decide), rd38 l1 n hn'] at hn
    refine ⟨fun _ _ _ _ => rfl, fun _ _ _ q q' => absurd q q', fun k h h' hne => ?_, fun k h h' q => ?_, fun h => by cases h⟩
    · rw [List.getElem_set_ne (fun e => hne (.inl ⟨ho, rfl, by rw [e]⟩))]
    · by_cases e : n = k
      · subst e; exact absurd q hn
      · rw [List.getElem_set_ne e]
end Go.Proofs.YtponmfnegdlppaaDoor.P

end
section
/- What is noted of a Begin, of a charge: contracts by hand (printed by HNotes.gen.py). -/
namespace Go.Proofs.YtponmfnegdlppaaDoor.P
open Go.RowKit Go.Proofs.YtponmfnegdlppaaDoorW.PrintWords Go.Proofs.YtponmfnegdlppaaDoorW.PrintLast Go.Proofs.YtponmfnegdlppaaDoorW.PrintMore
set_option linter.unusedVariables false
set_option linter.unusedSimpArgs false

set_option maxHeartbeats 4000000 in
theorem charge_env {w0 W : World} {B : List Bx} {R : List It} {g : Nat} {bg ch : Nat → Bool} {s c : Int} (k a : Nat) (h : Env w0 (⟨g, ncells bg ch s c, 56⟩ :: B) R W) (hk : k < 16) (ha : 1 ≤ a) (ha2 : a ≤ 16) (hb : bg (k * 17 + a) = true) (hc : ch (k * 17 + a) = false) (hs : 0 ≤ c ∧ c ≤ 1000000000000) :
    Calls Tryd.prog 64 #[.pointer (some ⟨g, 0, none⟩), .int .i64 k, .int .i64 a] W fun e W' => e = .returned (.bool true) ∧ Env w0 (⟨g, ncells bg (upd ch (k * 17 + a)) s (c + 1), 56⟩ :: B) R W' := by
  have x1 : W.cell? ⟨g, k * 17 + a, none⟩ = some (.bool true) := by rw [← hb]; exact h.at_ 0 (k * 17 + a) rfl (ncells_bg bg ch s c _ (by omega))
  have x2 : W.cell? ⟨g, 272 + k * 17 + a, none⟩ = some (.bool false) := by rw [← hc, Nat.add_assoc]; exact h.at_ 0 (272 + (k * 17 + a)) rfl (ncells_ch bg ch s c _ (by omega))
  have x3 : W.cell? ⟨g, 545, none⟩ = some (.int .i64 c) := h.at_ 0 545 rfl (ncells_c bg ch s c)
  have f2 : W.frozen? ⟨g, 272 + k * 17 + a, none⟩ = false := h.fr_ 0 _ rfl
  have f3 : W.frozen? ⟨g, 545, none⟩ = false := h.fr_ 0 _ rfl
  have hE := (h.set (272 + (k * 17 + a)) (.bool true)).set 545 (.int .i64 (c + 1))
  rw [ncells_set_ch _ _ _ _ _ (by omega), ncells_set_c, ← Nat.add_assoc] at hE
  have HE := Aside0.mk hE
  have y3 : (W.setCell ⟨g, 272 + k * 17 + a, none⟩ (.bool true)).cell? ⟨g, 545, none⟩ = some (.int .i64 c) := by
    have q := h.set (272 + (k * 17 + a)) (.bool true)
    rw [ncells_set_ch _ _ _ _ _ (by omega), ← Nat.add_assoc] at q
    exact q.at_ 0 545 rfl (ncells_c _ _ _ _)
  have hw : IntKind.i64.wrap (c + 1) = c + 1 := by rw [IntKind.wrap_i64]; omega
  have hu52 := Tryd.underlying52
  have hu53 := Tryd.underlying53
  have hu54 := Tryd.underlying54
  have hu56 := Tryd.underlying56
  have p1 : ((0 : Int) ≤ (k : Int)) = True := eq_true (by omega)
  have p2 : ((k : Int) < 16) = True := eq_true (by omega)
  have p3 : ((0 : Int) ≤ (a : Int)) = True := eq_true (by omega)
  have p4 : ((a : Int) < 17) = True := eq_true (by omega)
  have e1 : decide ((a : Int) < 1) = false := decide_eq_false (by omega)
  have e2 : decide (16 < (a : Int)) = false := decide_eq_false (by omega)
  clear hE h hb hc
  go_enter Tryd.func64, Tryd.ntmps64
  go_wp2_with fail
  go_ret
  exact ⟨rfl, HE.out⟩

set_option maxHeartbeats 4000000 in
theorem begin_env {w0 W : World} {B : List Bx} {R : List It} {g : Nat} {bg ch : Nat → Bool} {s c : Int} (k a : Nat) (fr : Bool) (h : Env w0 (⟨g, ncells bg ch s c, 56⟩ :: B) R W) (hk : k < 16) (ha : 1 ≤ a) (ha2 : a ≤ 16) (hb : bg (k * 17 + a) = !fr)
    (hp : 1 < a → bg (k * 17 + (a - 1)) = true) (hc : fr = true → 1 < a → ch (k * 17 + (a - 1)) = true) (hs : 0 ≤ s ∧ s ≤ 1000000000000) :
    Calls Tryd.prog 62 #[.pointer (some ⟨g, 0, none⟩), .int .i64 k, .int .i64 a, .bool fr] W fun e W' => e = .returned (.bool true) ∧ Env w0 (⟨g, ncells (upd bg (k * 17 + a)) ch (if fr = true then s + 1 else s) c, 56⟩ :: B) R W' := by
  have x1 : W.cell? ⟨g, k * 17 + a, none⟩ = some (.bool (!fr)) := by rw [← hb]; exact h.at_ 0 (k * 17 + a) rfl (ncells_bg bg ch s c _ (by omega))
  have f1 : W.frozen? ⟨g, k * 17 + a, none⟩ = false := h.fr_ 0 _ rfl
  have x3 : W.cell? ⟨g, 544, none⟩ = some (.int .i64 s) := h.at_ 0 544 rfl (ncells_s bg ch s c)
  have f3 : W.frozen? ⟨g, 544, none⟩ = false := h.fr_ 0 _ rfl
  have hw : IntKind.i64.wrap (s + 1) = s + 1 := by rw [IntKind.wrap_i64]; omega
  have hu52 := Tryd.underlying52
  have hu53 := Tryd.underlying53
  have hu54 := Tryd.underlying54
  have hu56 := Tryd.underlying56
  have p1 : ((0 : Int) ≤ (k : Int)) = True := eq_true (by omega)
  have p2 : ((k : Int) < 16) = True := eq_true (by omega)
  have p3 : ((0 : Int) ≤ (a : Int)) = True := eq_true (by omega)
  have p4 : ((a : Int) < 17) = True := eq_true (by omega)
  have e1 : decide ((a : Int) < 1) = false := decide_eq_false (by omega)
  have e2 : decide (16 < (a : Int)) = false := decide_eq_false (by omega)
  by_cases h1 : 1 < a
  · have e3 : decide (1 < (a : Int)) = true := decide_eq_true (by omega)
    obtain ⟨a', rfl⟩ : ∃ a', a = a' + 1 := ⟨a - 1, by omega⟩
    rw [Nat.add_sub_cancel] at hp hc
    have hw1 : IntKind.i64.wrap (((a' + 1 : Nat) : Int) - 1) = (a' : Int) := by rw [IntKind.wrap_i64]; omega
    have hw1' : IntKind.i64.wrap ((a' : Int) + 1 - 1) = (a' : Int) := by rw [IntKind.wrap_i64]; omega
    have p5 : ((0 : Int) ≤ (a' : Int)) = True := eq_true (by omega)
    have p6 : ((a' : Int) < 17) = True := eq_true (by omega)
    have x4 : W.cell? ⟨g, k * 17 + a', none⟩ = some (.bool true) := by rw [← hp h1]; exact h.at_ 0 (k * 17 + a') rfl (ncells_bg bg ch s c _ (by omega))
    cases fr
    · have hE := h.set (k * 17 + (a' + 1)) (.bool true)
      rw [ncells_set_bg _ _ _ _ _ (by omega)] at hE
      have HE := Aside0.mk hE
      clear hE h hb hp hc
      go_enter Tryd.func62, Tryd.ntmps62
      go_wp2_with fail
      go_ret
      exact ⟨rfl, HE.out⟩
    · have x5 : W.cell? ⟨g, 272 + k * 17 + a', none⟩ = some (.bool true) := by rw [← hc rfl h1, Nat.add_assoc]; exact h.at_ 0 (272 + (k * 17 + a')) rfl (ncells_ch bg ch s c _ (by omega))
      have hE := (h.set 544 (.int .i64 (s + 1))).set (k * 17 + (a' + 1)) (.bool true)
      have q := h.set 544 (.int .i64 (s + 1))
      rw [ncells_set_s] at q hE
      rw [ncells_set_bg _ _ _ _ _ (by omega)] at hE
      have y1 : (W.setCell ⟨g, 544, none⟩ (.int .i64 (s + 1))).cell? ⟨g, k * 17 + (a' + 1), none⟩ = some (.bool false) := by
        have := q.at_ 0 (k * 17 + (a' + 1)) rfl (ncells_bg bg ch (s + 1) c _ (by omega))
        rw [hb] at this
        exact this
      have y2 : (W.setCell ⟨g, 544, none⟩ (.int .i64 (s + 1))).frozen? ⟨g, k * 17 + (a' + 1), none⟩ = false := q.fr_ 0 _ rfl
      have HE := Aside0.mk hE
      clear hE h hb hp hc q
      go_enter Tryd.func62, Tryd.ntmps62
      go_wp2_with fail
      go_ret
      exact ⟨rfl, HE.out⟩
  · have e3 : decide (1 < (a : Int)) = false := decide_eq_false (by omega)
    cases fr
    · have hE := h.set (k * 17 + a) (.bool true)
      rw [ncells_set_bg _ _ _ _ _ (by omega)] at hE
      have HE := Aside0.mk hE
      clear hE h hb hp hc
      go_enter Tryd.func62, Tryd.ntmps62
      go_wp2_with fail
      go_ret
      exact ⟨rfl, HE.out⟩
    · have hE := (h.set 544 (.int .i64 (s + 1))).set (k * 17 + a) (.bool true)
      have q := h.set 544 (.int .i64 (s + 1))
      rw [ncells_set_s] at q hE
      rw [ncells_set_bg _ _ _ _ _ (by omega)] at hE
      have y1 : (W.setCell ⟨g, 544, none⟩ (.int .i64 (s + 1))).cell? ⟨g, k * 17 + a, none⟩ = some (.bool false) := by
        have := q.at_ 0 (k * 17 + a) rfl (ncells_bg bg ch (s + 1) c _ (by omega))
        rw [hb] at this
        exact this
      have y2 : (W.setCell ⟨g, 544, none⟩ (.int .i64 (s + 1))).frozen? ⟨g, k * 17 + a, none⟩ = false := q.fr_ 0 _ rfl
      have HE := Aside0.mk hE
      clear hE h hb hp hc q
      go_enter Tryd.func62, Tryd.ntmps62
      go_wp2_with fail
      go_ret
      exact ⟨rfl, HE.out⟩
end Go.Proofs.YtponmfnegdlppaaDoor.P

end
