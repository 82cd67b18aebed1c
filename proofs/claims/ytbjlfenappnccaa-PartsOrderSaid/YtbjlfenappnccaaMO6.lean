/- Several texts laid together (wip/tools/merge2.py): HBounds, Pf17, EvenPlain0, HOf. -/
import Derived.Test.YtbjlfenappnccaaMO5
import Derived.Test.YtbjlfenappnccaaMO2
import Derived.Outline
import Derived.Test.YtbjlfenappnccaaMO1
import Derived.Test.YtbjlfenappnccaaMO3
section
/- parts.Bounds: contract by hand. -/
namespace Go.Proofs.Ytbjlfenappnccaa.P
open Go.RowKit Go.Proofs.YtbjlfenappnccaaW.PrintWords Go.Proofs.YtbjlfenappnccaaW.PrintLast Go.Proofs.YtbjlfenappnccaaW.PrintMore Go.Proofs.Ytbjlfenappnccaa.Hand
set_option linter.unusedVariables false
set_option linter.unusedSimpArgs false

set_option maxHeartbeats 8000000 in
set_option maxRecDepth 100000 in
theorem Bounds_walk (w : World) (A : Option Addr) (c : Nat) (l : List ByteArray) (n : Int) (hC : Kd.C Kd.string w A l.length l) (hc : l.length ≤ c) :
    Calls Try.prog 15 #[.slice A l.length c, .int .i64 n] w fun e w' => ∃ v0_ : Value, e = .returned (.tuple #[v0_, .int .i64 (boundsOf l n).2]) ∧ Kd.R Kd.string 9 w' w.heap.size (fun _ => True) v0_ (boundsOf l n).1 ∧ Below w.heap.size w w' := by
  have HB := Aside0.mk (Below.refl w.heap.size w)
  have HC := Aside0.mk hC
  have HCC := Aside0.mk hc
  clear hc hC
  by_cases hlong : 65536 < l.length
  · have hd1 : decide ((65536 : Int) < (l.length : Int)) = true := by simp; omega
    have hd2 : decide (65536 < l.length) = true := by simp; omega
    have HE := Aside0.mk (bo_long (n := n) hlong)
    clear hlong
    go_enter Try.func15, Try.ntmps15
    go_wp2_with fail
    go_ret2
    rw [HE.out]
    exact ⟨_, rfl, Kd.R_nil _ _ _ _ _, HB.out⟩
  have hd1 : decide ((65536 : Int) < (l.length : Int)) = false := by simp; omega
  have hd2 : decide (65536 < l.length) = false := by simp; omega
  have HLONG := Aside0.mk hlong
  clear hlong
  by_cases harg : ¬ (1 ≤ n ∧ n ≤ 65535)
  · have HE := Aside0.mk (bo_arg HLONG.out harg)
    have HG := Aside0.mk (fun (W : World) => parts_good.calls n false W (by unfold parts_good.f; by_cases h1 : n ≥ 1; (rw [if_pos h1]; simp; omega); rw [if_neg h1]))
    clear harg
    go_enter Try.func15, Try.ntmps15
    go_wp2_with fail
    refine (HG.out _).mono ?_
    rintro e w2 ⟨rfl, hD⟩
    have HB2 := Aside0.mk (below_step HB.out hD.below)
    clear hD
    go_wp2_with fail
    go_ret2
    rw [HE.out]
    exact ⟨_, rfl, Kd.R_nil _ _ _ _ _, by first | exact HB2.out | exact below_drew1 HB2.out⟩
  replace harg := Decidable.not_not.1 harg
  have HARG := Aside0.mk harg
  have HG := Aside0.mk (fun (W : World) => parts_good.calls n true W (by unfold parts_good.f; rw [if_pos harg.1]; simp; exact harg.2))
  clear harg
  go_enter Try.func15, Try.ntmps15
  go_wp2_with fail
  refine (HG.out _).mono ?_
  rintro e w2 ⟨rfl, hD⟩
  have HB2 := Aside0.mk (below_step HB.out hD.below)
  clear hD hd1 hd2 HB HG
  go_wp2_with fail
  go_loopw [19] (fun v0 wr => ∃ i : Nat, v0 = .int .i64 i ∧ i ≤ l.length ∧ Aside0 (∀ j, (h : j < l.length) → j < i → l[j].size ≤ 1024) ∧ Aside0 (Below w.heap.size w wr)) (fun v0 _ => l.length - (intOf v0).toNat)
  case atStart => exact ⟨0, rfl, Nat.zero_le _, ⟨fun j _ h => absurd h (Nat.not_lt_zero _)⟩, HB2⟩
  case round =>
    clear HB2
    obtain ⟨i, rfl, hi, HX, HB⟩ := hrel
    by_cases hlt : i < l.length
    · have p1 : (0 : Int) ≤ (i : Int) := Int.natCast_nonneg i
      have q1 : (i : Int) < (l.length : Int) := Int.ofNat_lt.2 hlt
      have d3 : decide ((i : Int) < (l.length : Int)) = true := decide_eq_true q1
      have d4 : decide (i < l.length) = true := decide_eq_true hlt
      obtain ⟨ad, e, hx0⟩ := Kd.at_string (Kd.C_below HC.out HB.out) (i : Int) (Int.natCast_nonneg i) (Int.ofNat_lt.2 hlt)
      subst e
      rw [rdb_nat l i hlt, Int.toNat_natCast] at hx0
      replace p1 := eq_true p1
      replace q1 := eq_true q1
      have hw4 : wrap64 ((i : Int) + 1) = ((i + 1 : Nat) : Int) := wrap_succB i (by have := HLONG.out; omega)
      by_cases hsz : 1024 < l[i].size
      · have HE := Aside0.mk (bo_bad HLONG.out HARG.out i hlt hsz)
        generalize l[i] = b at hx0 hsz
        have d5 : decide ((1024 : Int) < (b.size : Int)) = true := decide_eq_true (by omega)
        have d6 : decide (1024 < b.size) = true := decide_eq_true hsz
        clear hsz
        go_wp2_with fail
        go_ret2
        rw [HE.out]
        exact ⟨_, rfl, Kd.R_nil _ _ _ _ _, by first | exact HB.out | exact below_drew1 HB.out⟩
      · have HX2 := Aside0.mk (show ∀ j, (h : j < l.length) → j < i + 1 → l[j].size ≤ 1024 from fun j h hj => by
          rcases Nat.lt_or_ge j i with h1 | h1
          · exact HX.out j h h1
          · obtain rfl : j = i := by omega
            omega)
        generalize l[i] = b at hx0 hsz
        have d5 : decide ((1024 : Int) < (b.size : Int)) = false := decide_eq_false (by omega)
        have d6 : decide (1024 < b.size) = false := decide_eq_false hsz
        clear hsz
        go_wp2_with fail
        go_roundw
        case rel => exact ⟨i + 1, by rw [hw4], by omega, HX2, by first | exact HB | exact ⟨below_drew1 HB.out⟩⟩
        case measure => rw [hw4]; simp only [intOf, Int.toNat_natCast]; omega
    · have d3 : decide ((i : Int) < (l.length : Int)) = false := by simp; omega
      have d4 : decide (i < l.length) = false := by simp; omega
      have HK := Aside0.mk (show ∀ b ∈ l, b.size ≤ 1024 from fun b hb => by
        obtain ⟨j, hj, rfl⟩ := List.getElem_of_mem hb
        exact HX.out j hj (by omega))
      clear HX hlt hi
      have HLL := Aside0.mk (show ([] ++ l : List ByteArray).length < 8796093022208 by have := HLONG.out; rw [List.nil_append]; omega)
      go_upto_region 12 with (first
        | ((with_reducible refine gate_dst (N := 27) rfl ?_); refine Kd.R_lit Kd.string _ 9 ?hg (N := 27) ?hd (xs := ([] : List ByteArray)) (inner := []) (ok := fun _ => True) (okp := fun _ => True) ?hr ?hp (fun _ hk => hk) trivial (Below.refl _ _) (Nat.le_refl _) (by simp) ?_; (case hd => rfl); (case hg => rfl); (case hr => first | (go_simp; done) | (go_simp; rfl)); (case hp => exact (Reps.none _ _)); intro v27 w3 ho hb hg_ hnew_; clear hg_ hnew_; have n0_ := Aside0.mk (Kd.R_lower ho (below_size (by repeat (first | (with_reducible first | exact HB.out | apply below_alloc | apply pw_below_drewN | apply below_drew1) | exact HB.out)))); have n1_ := Aside0.mk (below_step (by repeat (first | (with_reducible first | exact HB.out | apply below_alloc | apply pw_below_drewN | apply below_drew1) | exact HB.out)) hb); clear HB; have HO27 := n0_; have HB := n1_; clear n0_ n1_; clear hb ho)
        | ((with_reducible refine gate_builtin (b := .append) (xs := #[.tmp 27, .tmp 28]) rfl ?_); at_builtin; refine Kd.R_append_rows Kd.string (w0 := w) w.heap.size rfl (.tmp 27) (.tmp 28) 24 9 (.string ⟨#[]⟩) 16 rfl Try.underlying24 info9 rfl (by decide) (by omega) v27 [] l _ _ _ (fun _ => True) (fun _ => False) rfl rfl ?aO ?aR (fun _ _ h => h) (fun _ h => h.elim) ?aF ?aB ?aS ?aL ?_; (case aR => repeat (first | exact (Kd.C_below HC.out HB.out) | (with_reducible refine Kd.C_alloc ?_ _) | (with_reducible refine Kd.C_drewN ?_ _) | (with_reducible refine Kd.C_drew ?_))); (case aB => exact (by repeat (first | (with_reducible first | exact HB.out | apply below_alloc | apply pw_below_drewN | apply below_drew1) | exact HB.out))); (case aF => exact (fun _ _ => trivial)); (case aO => exact (by (with_reducible repeat (first | apply Kd.R_alloc | apply Kd.R_drewN | apply Kd.R_drew)); exact HO27.out)); (case aS => exact (below_size (by repeat (first | (with_reducible first | exact HB.out | apply below_alloc | apply pw_below_drewN | apply below_drew1) | exact HB.out)))); (case aL => have := HLL.out; (try rw [List.nil_append] at this); (try rw [List.length_nil]); omega); intro v29 w4 ho hb hg hat; have n0_ := Aside0.mk hb; have n1_ := Aside0.mk ho; clear HB; clear HO27; have HB := n0_; have HO29 := n1_; clear n0_ n1_; clear ho hb hg hat; obtain ⟨As, cs, es⟩ := Kd.R_slice HO29.out; subst es))
      rw [List.nil_append] at HO29
      obtain ⟨Bs, hBs⟩ : ∃ Bs, Bs = w4.heap.size := ⟨_, rfl⟩
      have hb1 : (w4.alloc (.cells #[.slice As l.length cs] 24)).heap[Bs]? = some (.cells #[.slice As l.length cs] 24 (0, 0)) := by rw [hBs]; exact heap_alloc_new w4 _
      have HR5 := Aside0.mk (Kd.R_alloc HO29.out (.cells #[.slice As l.length cs] 24))
      have HB5 := Aside0.mk (below_alloc HB.out (.cells #[.slice As l.length cs] 24))
      rw [← hBs]
      clear hBs HO29 HB
      generalize w4.alloc (.cells #[.slice As l.length cs] 24) = w5 at hb1 HR5 HB5 ⊢
      have hcell : w5.cell? ⟨Bs, 0, none⟩ = some (.slice As l.length cs) := (blk_cell hb1 0).trans rfl
      have HSRT := Aside0.mk (sort_keys w5 w.heap.size l.length cs Bs As l HK.out HR5.out (by have := HLONG.out; omega) hb1)
      go_upto_region 13 with (go_at_call 29; refine HSRT.out.mono ?_; rintro e w6 ⟨rfl, hr, hb6, hbl, hsz⟩; have HR6 := Aside0.mk hr; have HBX6 := Aside0.mk hb6; have HB6 := Aside0.mk (hbl w HB5.out (below_size HB5.out)); clear hr hb6 hbl hsz HSRT HR5 HB5 hb1 hcell)
      obtain ⟨m, hm⟩ : ∃ m : Nat, n = ((m + 1 : Nat) : Int) := ⟨(n - 1).toNat, by have := HARG.out; omega⟩
      have hwm : wrap64 (n - 1) = (m : Int) := by have := HARG.out; unfold wrap64; omega
      have hwm2 : IntKind.i64.wrap (n - 1) = (m : Int) := (i64_w _).trans hwm
      have HM := Aside0.mk hm
      have HM2 := Aside0.mk (show m ≤ 65534 by have := HARG.out; omega)
      clear hm
      go_upto_region 14 with (first
        | ((with_reducible refine gate_dst (N := 36) rfl ?_); refine Kd.R_make Kd.string _ 9 rfl (N := 36) rfl 24 _ _ rfl (m : Int) rfl rfl Try.underlying24 (.string ⟨#[]⟩) 16 info9 rfl (by decide) (by omega) ByteArray.empty (ok := fun _ => True) (okp := fun _ => True) rfl (fun _ hk => hk) trivial (Int.natCast_nonneg m) (by have := HM2.out; rw [Int.toNat_natCast]; omega) (Below.refl _ _) (Nat.le_refl _) ?_; intro v36 w7 ho hb hg hnew; rw [Int.toNat_natCast] at ho; have HV := Aside0.mk hnew; have HO36 := Aside0.mk (Kd.R_lower ho (below_size (by repeat (first | (with_reducible first | exact HB6.out | apply below_alloc | apply pw_below_drewN | apply below_drew1) | exact HB6.out)))); have HB7 := Aside0.mk (below_step (by repeat (first | (with_reducible first | exact HB6.out | apply below_alloc | apply pw_below_drewN | apply below_drew1) | exact HB6.out)) hb); have HS7 := Aside0.mk (Kd.R_below HR6.out hb); have HX7 := Aside0.mk ((hb.block _ (blk_lt HBX6.out)).trans HBX6.out); have HLT := Aside0.mk (Kd.R_lt HR6.out); have HBT := Aside0.mk (blk_lt HBX6.out); clear HB6 HR6 HBX6 hb ho hg hnew))
      obtain ⟨gb, cb, hgv, hgb, hlb⟩ : ∃ gb cb, v36 = .slice (some ⟨gb, 0, none⟩) m cb ∧ w6.heap.size ≤ gb ∧ gb < w7.heap.size := by
        obtain ⟨b, hb1, hb2⟩ := HV.out
        obtain ⟨_, hv⟩ := Kd.own_of_R HO36.out
        rcases hv with ⟨rfl, _⟩ | ⟨gb, cb, cur, rfl, _, hh, _⟩
        · simp [Value.ownBlock] at hb1
        · have : gb = b := by simpa [Value.ownBlock] using hb1
          subst this
          exact ⟨gb, cb, by rw [List.length_replicate], hb2, blk_lt hh⟩
      subst hgv
      have HNE := Aside0.mk (show ∀ k, (Value.slice As l.length cs).ownBlock = some k → k ≠ gb from fun k hk => by have := HLT.out k hk; omega)
      have HNB := Aside0.mk (show Bs ≠ gb by have := HBT.out; omega)
      obtain ⟨S, hS⟩ : ∃ S, S = sortB l := ⟨_, rfl⟩
      rw [← hS] at HS7
      have HSL := Aside0.mk (show S.length = l.length by rw [hS]; exact sortB_length l)
      have HE := Aside0.mk (show boundsOf l n = (blB S (m + 1), 0) by rw [bo_ok HLONG.out HARG.out HK.out, hS]; have := HM.out; rw [this]; rfl)
      have HP0 : Aside0 (Kd.R Kd.string 9 w7 w.heap.size (fun _ => True) (.slice (some ⟨gb, 0, none⟩) m cb) (plB S (m + 1) 0)) := ⟨by rw [plB_zero]; exact HO36.out⟩
      clear hS HV HO36 HLT HBT hgb hlb HK hwm hwm2
      go_wp2_with fail
      go_loopw [39] (fun v0 wr => ∃ i : Nat, v0 = .int .i64 i ∧ i ≤ m ∧ Aside0 (Kd.R Kd.string 9 wr w.heap.size (fun _ => True) (.slice (some ⟨gb, 0, none⟩) m cb) (plB S (m + 1) i)) ∧ Aside0 (Kd.R Kd.string 9 wr w.heap.size (fun _ => True) (.slice As l.length cs) S) ∧ Aside0 (wr.heap[Bs]? = some (.cells #[.slice As l.length cs] 24 (0, 0))) ∧ Aside0 (Below w.heap.size w wr)) (fun v0 _ => m - (intOf v0).toNat)
      case atStart => exact ⟨0, rfl, Nat.zero_le _, HP0, HS7, HX7, HB7⟩
      case round =>
        clear HP0 HS7 HX7 HB7
        obtain ⟨i2, rfl, hi2, HP, HS, HX, HB⟩ := hrel
        by_cases hlt : i2 < m
        · have q1 : (i2 : Int) < (m : Int) := Int.ofNat_lt.2 hlt
          have d5 : decide ((i2 : Int) < (m : Int)) = true := decide_eq_true q1
          have d6 : decide (i2 < m) = true := decide_eq_true hlt
          have hx8 := (blk_cell HX.out 0).trans rfl
          have hw4 : wrap64 ((i2 : Int) + 1) = ((i2 + 1 : Nat) : Int) := wrap_succB i2 (by have := HM2.out; omega)
          by_cases hpos : 0 < l.length
          · obtain ⟨gs, cap_, hv, _, _, _⟩ := Kd.R_form HS.out (by have := HSL.out; omega)
            injection hv with hv1 hv2 hv3
            subst hv1
            clear hv2 hv3
            have hne : gs ≠ gb := HNE.out gs rfl
            obtain ⟨q, hq⟩ : ∃ q : Nat, q = (i2 + 1) * l.length / (m + 1) := ⟨_, rfl⟩
            have hql : q < l.length := by rw [hq]; exact at_lt l.length (m + 1) i2 hpos (by omega)
            have hcs := Kd.R_celln ByteArray.empty HS.out (q : Int) (Int.natCast_nonneg q) (Int.ofNat_lt.2 hql)
            have hcb := Kd.R_celln ByteArray.empty HP.out (i2 : Int) (Int.natCast_nonneg i2) q1
            have hrd : rdOf ByteArray.empty S (q : Int) = atB S (m + 1) i2 := by
              have h := HSL.out
              unfold rdOf atB
              rw [Int.toNat_natCast, if_neg (by omega), h, hq]
            rw [hrd, Int.toNat_natCast] at hcs
            rw [Int.toNat_natCast] at hcb
            have hps := plB_set S (m + 1) i2 (by omega)
            generalize atB S (m + 1) i2 = x at hcs hps
            have hput := Kd.R_putn (h1 := fun _ => rfl) HP.out (i2 : Int) x
            rw [Int.toNat_natCast, hps] at hput
            have HP2 := Aside0.mk hput
            have HS2 := Aside0.mk (Kd.R_mono (Kd.R_far (p := ⟨gb, i2, none⟩) (Kd.R_of_own (h1 := fun _ => rfl) (ok := fun k => k ≠ gb) (Kd.own_of_R HS.out) HNE.out) (fun k hk => hk) (.string x)) (fun _ _ => trivial))
            have HX2 := Aside0.mk ((Below.heap_setCell wr ⟨gb, i2, none⟩ (.string x) Bs HNB.out).trans HX.out)
            have HB2 : Aside0 (Below w.heap.size w (wr.setCell ⟨gb, i2, none⟩ (.string x))) := ⟨by
              have hb := HB.out
              have hgb := (Kd.R_base HP.out) gb rfl
              exact ⟨hb.os, hb.tape, hb.output, by have := hb.size; simpa [World.setCell] using this, fun k hk => (Below.heap_setCell wr ⟨gb, i2, none⟩ (.string x) k (show k ≠ gb by omega)).trans (hb.block k hk)⟩⟩
            have hcs1 : wr.cell? ⟨gs, q, none⟩ = some (.string x) := hcs.1
            have hcb1 := hcb.1
            have hcb2 := hcb.2
            generalize rdOf ByteArray.empty (plB S (m + 1) i2) (i2 : Int) = old at hcb1
            have d7 : decide ((0 : Int) < (l.length : Int)) = true := decide_eq_true (by omega)
            have d8 : decide (0 < l.length) = true := decide_eq_true hpos
            have hmu : (i2 + 1) * l.length ≤ 65535 * 65536 := Nat.mul_le_mul (by have := HM2.out; omega) (by have := HLONG.out; omega)
            have hw7 : wrap64 ((wrap64 (((i2 : Int) + 1) * (l.length : Int))).tdiv n) = (q : Int) := by
              have e1 : ((i2 : Int) + 1) * (l.length : Int) = (((i2 + 1) * l.length : Nat) : Int) := by rw [Int.natCast_mul]; rfl
              have e2 : wrap64 (((i2 + 1) * l.length : Nat) : Int) = (((i2 + 1) * l.length : Nat) : Int) := by unfold wrap64; omega
              have e3 := HM.out
              rw [e1, e2, e3, Int.tdiv_eq_ediv_of_nonneg (Int.natCast_nonneg _), ← Int.natCast_ediv, ← hq]
              unfold wrap64
              have := HLONG.out
              omega
            have hn0 : (n = 0) = False := eq_false (by have := HARG.out; omega)
            have hn1 : (n == 0) = false := by simp; have := HARG.out; omega
            have hql1 : (q : Int) < (l.length : Int) := Int.ofNat_lt.2 hql
            have hql2 : decide ((q : Int) < (l.length : Int)) = true := decide_eq_true hql1
            have hql3 : decide (q < l.length) = true := decide_eq_true hql
            have hq0 : (0 : Int) ≤ (q : Int) := Int.natCast_nonneg q
            clear hps hput hcs hcb hpos hq hmu hrd
            go_wp2_with fail
            go_region
            go_wp2_with fail
            go_roundw
            case rel => exact ⟨i2 + 1, by rw [hw4], by omega, ⟨Kd.R_drew HP2.out⟩, ⟨Kd.R_drew HS2.out⟩, HX2, ⟨below_drew1 HB2.out⟩⟩
            case measure => rw [hw4]; simp only [intOf, Int.toNat_natCast]; omega
          · have d7 : decide ((0 : Int) < (l.length : Int)) = false := decide_eq_false (by omega)
            have d8 : decide (0 < l.length) = false := decide_eq_false hpos
            have HP2 := Aside0.mk (show Kd.R Kd.string 9 _ w.heap.size (fun _ => True) (.slice (some ⟨gb, 0, none⟩) m cb) (plB S (m + 1) (i2 + 1)) by rw [← plB_empty S (m + 1) i2 (by omega) (by have := HSL.out; omega)]; exact HP.out)
            clear hpos HP
            go_wp2_with fail
            go_roundw
            case rel => exact ⟨i2 + 1, by rw [hw4], by omega, HP2, HS, HX, HB⟩
            case measure => rw [hw4]; simp only [intOf, Int.toNat_natCast]; omega
        · have d5 : decide ((i2 : Int) < (m : Int)) = false := by simp; omega
          have d6 : decide (i2 < m) = false := by simp; omega
          have hx8 := (blk_cell HX.out 0).trans rfl
          have HI := Aside0.mk (show i2 = m by omega)
          clear hlt hi2
          go_wp2_with fail
          go_ret2
          rw [HE.out]
          refine ⟨_, rfl, ?_, HB.out⟩
          have := HP.out
          rw [HI.out] at this
          have e := plB_end S (m + 1)
          rw [Nat.add_sub_cancel] at e
          rw [e] at this
          exact this
end Go.Proofs.Ytbjlfenappnccaa.P
namespace Go.Proofs.Ytbjlfenappnccaa.Hand
open Go.RowKit Go.Proofs.YtbjlfenappnccaaW.PrintWords Go.Proofs.YtbjlfenappnccaaW.PrintLast Go.Proofs.Ytbjlfenappnccaa.P
set_option linter.unusedVariables false
def parts_Bounds.f (l0 : List ByteArray) (a1 : Int) : Option (List ByteArray × Int) := some (boundsOf l0 a1)
theorem parts_Bounds.calls (A0 : Option Addr) (c0 : Nat) (l0 : List ByteArray) (a1 : Int) (r1 : List ByteArray) (r2 : Int) (w : World) (hr0 : Kd.C Kd.string w A0 l0.length l0) (hc0 : l0.length ≤ c0) (h : parts_Bounds.f l0 a1 = some (r1, r2)) :
    Calls Try.prog 15 #[.slice A0 l0.length c0, .int .i64 a1] w fun e w' => ∃ v0_ : Value, e = .returned (.tuple #[v0_, .int .i64 r2]) ∧ Kd.R Kd.string 9 w' w.heap.size (fun _ => True) v0_ r1 ∧ Below w.heap.size w w' := by
  have h' := Option.some.inj h
  have := Bounds_walk w A0 c0 l0 a1 hr0 hc0
  rw [h'] at this
  exact this
end Go.Proofs.Ytbjlfenappnccaa.Hand

end
section
-- Written by a program of this session (wip/tools/hprint.py, over the kit's printer), not by hand. Lean checks it.
namespace Go.Proofs.Ytbjlfenappnccaa.P
open Go.RowKit Go.Proofs.YtbjlfenappnccaaW.PrintWords Go.Proofs.YtbjlfenappnccaaW.PrintLast Go.Proofs.YtbjlfenappnccaaW.PrintMore
attribute [local go_sem] max2_int min2_int max_two min_two max_three min_three max_four min_four
set_option linter.unusedVariables false
set_option linter.unusedSimpArgs false

open Go.Proofs.Ytbjlfenappnccaa.Hand
/-! ### winnowlaw14_works: function 17 -/
def winnowlaw14_works.f (k : Nat)  : Option (Bool) := (parts_Bounds.f (([(⟨#[100]⟩ : ByteArray), (⟨#[98]⟩ : ByteArray), (⟨#[97]⟩ : ByteArray), (⟨#[99]⟩ : ByteArray)] : List ByteArray)) 4).bind fun bt199 => (if bt199.2 = 0 then ((winnowlaw14_sameTexts.f k bt199.1 (([(⟨#[98]⟩ : ByteArray), (⟨#[99]⟩ : ByteArray), (⟨#[100]⟩ : ByteArray)] : List ByteArray))).bind fun t206 => (if t206 = true then ((parts_Range.f k bt199.1 (⟨#[97]⟩ : ByteArray)).bind fun t207 => (if t207 = 0 then ((parts_Range.f k bt199.1 (⟨#[98]⟩ : ByteArray)).bind fun t208 => (if t208 = 1 then ((parts_Range.f k bt199.1 (⟨#[122]⟩ : ByteArray)).bind fun t209 => (some (t209 == 3))) else (some false))) else (some false))) else (some false))) else (some false))
theorem winnowlaw14_works.mono : ∀ k, LeO (winnowlaw14_works.f k ) (winnowlaw14_works.f (k + 1) ) := by
  intro  k
  unfold winnowlaw14_works.f
  repeat' first
      | (with_reducible exact parts_Range.mono _ _ _)
      | (with_reducible exact winnowlaw14_sameTexts.mono _ _ _)
      | (with_reducible exact LeO.refl _)
      | (with_reducible exact LeO.none _)
      | (with_reducible refine LeO.ite ?_ ?_)
      | (with_reducible refine LeO.bind ?_ (fun _ => ?_))
      | exact parts_Range.mono _ _ _
      | exact winnowlaw14_sameTexts.mono _ _ _
      | exact LeO.none _
      | refine LeO.ite ?_ ?_
      | refine LeO.bind ?_ (fun _ => ?_)
set_option maxHeartbeats 8000000 in
set_option maxRecDepth 100000 in
theorem winnowlaw14_works.calls (k : Nat)  (r : Bool) (w : World) (h : winnowlaw14_works.f k  = some r) :
    Calls Try.prog 17 #[] w fun e w' => e = .returned (.bool r) ∧ Below w.heap.size w w' := by
  have HB := Aside0.mk (Below.refl w.heap.size w)
  have H : ((parts_Bounds.f (([(⟨#[100]⟩ : ByteArray), (⟨#[98]⟩ : ByteArray), (⟨#[97]⟩ : ByteArray), (⟨#[99]⟩ : ByteArray)] : List ByteArray)) 4).bind fun bt199 => (if bt199.2 = 0 then ((winnowlaw14_sameTexts.f k bt199.1 (([(⟨#[98]⟩ : ByteArray), (⟨#[99]⟩ : ByteArray), (⟨#[100]⟩ : ByteArray)] : List ByteArray))).bind fun t206 => (if t206 = true then ((parts_Range.f k bt199.1 (⟨#[97]⟩ : ByteArray)).bind fun t207 => (if t207 = 0 then ((parts_Range.f k bt199.1 (⟨#[98]⟩ : ByteArray)).bind fun t208 => (if t208 = 1 then ((parts_Range.f k bt199.1 (⟨#[122]⟩ : ByteArray)).bind fun t209 => (some (t209 == 3))) else (some false))) else (some false))) else (some false))) else (some false))) = some r := h
  clear h
  obtain ⟨y196, hy196⟩ : ∃ y_ : List ByteArray, y_ = (([(⟨#[100]⟩ : ByteArray), (⟨#[98]⟩ : ByteArray), (⟨#[97]⟩ : ByteArray), (⟨#[99]⟩ : ByteArray)] : List ByteArray)) := ⟨_, rfl⟩
  replace H : ((parts_Bounds.f y196 4).bind fun bt199 => (if bt199.2 = 0 then ((winnowlaw14_sameTexts.f k bt199.1 (([(⟨#[98]⟩ : ByteArray), (⟨#[99]⟩ : ByteArray), (⟨#[100]⟩ : ByteArray)] : List ByteArray))).bind fun t206 => (if t206 = true then ((parts_Range.f k bt199.1 (⟨#[97]⟩ : ByteArray)).bind fun t207 => (if t207 = 0 then ((parts_Range.f k bt199.1 (⟨#[98]⟩ : ByteArray)).bind fun t208 => (if t208 = 1 then ((parts_Range.f k bt199.1 (⟨#[122]⟩ : ByteArray)).bind fun t209 => (some (t209 == 3))) else (some false))) else (some false))) else (some false))) else (some false))) = some r := by first | (rw [hy196]; with_reducible exact H) | (have H2_ := (Option.bind_some _ _).symm.trans H; rw [hy196]; with_reducible exact H2_) | (have H2_ := (Option.bind_some _ _).symm.trans H; with_reducible exact H2_) | with_reducible exact H | (rw [hy196]; exact H) | exact H
  have Ny196 := Aside0.mk hy196
  clear hy196
  replace H := Option.bind_eq_some_iff.mp H
  obtain ⟨⟨t199, t200⟩, A10, H⟩ := H
  replace H : (if t200 = 0 then ((winnowlaw14_sameTexts.f k t199 (([(⟨#[98]⟩ : ByteArray), (⟨#[99]⟩ : ByteArray), (⟨#[100]⟩ : ByteArray)] : List ByteArray))).bind fun t206 => (if t206 = true then ((parts_Range.f k t199 (⟨#[97]⟩ : ByteArray)).bind fun t207 => (if t207 = 0 then ((parts_Range.f k t199 (⟨#[98]⟩ : ByteArray)).bind fun t208 => (if t208 = 1 then ((parts_Range.f k t199 (⟨#[122]⟩ : ByteArray)).bind fun t209 => (some (t209 == 3))) else (some false))) else (some false))) else (some false))) else (some false)) = some r := H
  have A1 := Aside0.mk A10
  clear A10
  by_cases c2 : t200 = 0
  · rw [if_pos c2] at H
    have c2b0 : (t200 == 0) = true := beq_iff_eq.mpr c2
    have c2b1 : (t200 != 0) = false := bne_eq_false_iff_eq.mpr c2
    clear c2
    obtain ⟨y203, hy203⟩ : ∃ y_ : List ByteArray, y_ = (([(⟨#[98]⟩ : ByteArray), (⟨#[99]⟩ : ByteArray), (⟨#[100]⟩ : ByteArray)] : List ByteArray)) := ⟨_, rfl⟩
    replace H : ((winnowlaw14_sameTexts.f k t199 y203).bind fun t206 => (if t206 = true then ((parts_Range.f k t199 (⟨#[97]⟩ : ByteArray)).bind fun t207 => (if t207 = 0 then ((parts_Range.f k t199 (⟨#[98]⟩ : ByteArray)).bind fun t208 => (if t208 = 1 then ((parts_Range.f k t199 (⟨#[122]⟩ : ByteArray)).bind fun t209 => (some (t209 == 3))) else (some false))) else (some false))) else (some false))) = some r := by first | (rw [hy203]; with_reducible exact H) | (have H2_ := (Option.bind_some _ _).symm.trans H; rw [hy203]; with_reducible exact H2_) | (have H2_ := (Option.bind_some _ _).symm.trans H; with_reducible exact H2_) | with_reducible exact H | (rw [hy203]; exact H) | exact H
    have Ny203 := Aside0.mk hy203
    clear hy203
    replace H := Option.bind_eq_some_iff.mp H
    obtain ⟨t206, A30, H⟩ := H
    replace H : (if t206 = true then ((parts_Range.f k t199 (⟨#[97]⟩ : ByteArray)).bind fun t207 => (if t207 = 0 then ((parts_Range.f k t199 (⟨#[98]⟩ : ByteArray)).bind fun t208 => (if t208 = 1 then ((parts_Range.f k t199 (⟨#[122]⟩ : ByteArray)).bind fun t209 => (some (t209 == 3))) else (some false))) else (some false))) else (some false)) = some r := H
    have A3 := Aside0.mk A30
    clear A30
    by_cases c4 : t206 = true
    · subst c4
      have H1 : ((parts_Range.f k t199 (⟨#[97]⟩ : ByteArray)).bind fun t207 => (if t207 = 0 then ((parts_Range.f k t199 (⟨#[98]⟩ : ByteArray)).bind fun t208 => (if t208 = 1 then ((parts_Range.f k t199 (⟨#[122]⟩ : ByteArray)).bind fun t209 => (some (t209 == 3))) else (some false))) else (some false))) = some r := by rw [if_pos rfl] at H; exact H
      clear H
      have H := H1
      clear H1
      replace H := Option.bind_eq_some_iff.mp H
      obtain ⟨t207, A50, H⟩ := H
      replace H : (if t207 = 0 then ((parts_Range.f k t199 (⟨#[98]⟩ : ByteArray)).bind fun t208 => (if t208 = 1 then ((parts_Range.f k t199 (⟨#[122]⟩ : ByteArray)).bind fun t209 => (some (t209 == 3))) else (some false))) else (some false)) = some r := H
      have A5 := Aside0.mk A50
      clear A50
      by_cases c6 : t207 = 0
      · rw [if_pos c6] at H
        have c6b0 : (t207 == 0) = true := beq_iff_eq.mpr c6
        have c6b1 : (t207 != 0) = false := bne_eq_false_iff_eq.mpr c6
        clear c6
        replace H := Option.bind_eq_some_iff.mp H
        obtain ⟨t208, A70, H⟩ := H
        replace H : (if t208 = 1 then ((parts_Range.f k t199 (⟨#[122]⟩ : ByteArray)).bind fun t209 => (some (t209 == 3))) else (some false)) = some r := H
        have A7 := Aside0.mk A70
        clear A70
        by_cases c8 : t208 = 1
        · rw [if_pos c8] at H
          have c8b0 : (t208 == 1) = true := beq_iff_eq.mpr c8
          have c8b1 : (t208 != 1) = false := bne_eq_false_iff_eq.mpr c8
          clear c8
          replace H := Option.bind_eq_some_iff.mp H
          obtain ⟨t209, A90, H⟩ := H
          replace H : (some (t209 == 3)) = some r := H
          have A9 := Aside0.mk A90
          clear A90
          obtain rfl := Option.some.inj H
          go_enter Try.func17, Try.ntmps17
          go_wp2_with (first | ((with_reducible refine gate_dst (N := 4) rfl ?_); (try (refine gate_guard (by rfl) ?_; dsimp only)); refine Kd.R_lit Kd.string _ 9 ?hg (N := 4) ?hd (xs := ([(⟨#[100]⟩ : ByteArray), (⟨#[98]⟩ : ByteArray), (⟨#[97]⟩ : ByteArray), (⟨#[99]⟩ : ByteArray)] : List ByteArray)) (inner := [.string (⟨#[100]⟩ : ByteArray), .string (⟨#[98]⟩ : ByteArray), .string (⟨#[97]⟩ : ByteArray), .string (⟨#[99]⟩ : ByteArray)]) (ok := fun _ => True) (okp := fun _ => True) ?hr ?hp (fun _ hk => hk) trivial (Below.refl _ _) (Nat.le_refl _) (by simp) ?_; (case hd => rfl); (case hg => rfl); (case hr => first | (go_simp; done) | (go_simp; rfl)); (case hp => exact (Reps.one (show Kd.M Kd.string _ _ _ (⟨#[100]⟩ : ByteArray) [.string (⟨#[100]⟩ : ByteArray)] from rfl) (Reps.one (show Kd.M Kd.string _ _ _ (⟨#[98]⟩ : ByteArray) [.string (⟨#[98]⟩ : ByteArray)] from rfl) (Reps.one (show Kd.M Kd.string _ _ _ (⟨#[97]⟩ : ByteArray) [.string (⟨#[97]⟩ : ByteArray)] from rfl) (Reps.one (show Kd.M Kd.string _ _ _ (⟨#[99]⟩ : ByteArray) [.string (⟨#[99]⟩ : ByteArray)] from rfl) (Reps.none _ _)))))); intro v197 w10 ho11 hb hg_ hnew_; clear hg_ hnew_; (first | rw [← Ny196.out] at ho11 | (simp only [Int.reduceToNat] at ho11; rw [← Ny196.out] at ho11)); have n0_ := Aside0.mk (Kd.R_lower ho11 (below_size (by repeat (first | (with_reducible first | exact HB.out | apply below_alloc | apply pw_below_drewN | apply below_drew1) | exact HB.out)))); have n1_ := Aside0.mk (below_step (by repeat (first | (with_reducible first | exact HB.out | apply below_alloc | apply pw_below_drewN | apply below_drew1) | exact HB.out)) hb); clear HB; have HO198 := n0_; have HB := n1_; clear n0_ n1_; clear hb ho11; obtain ⟨Ao12, co12, eo12⟩ := Kd.R_slice HO198.out; subst eo12) | ((with_reducible refine gate_callee (f := 15) rfl ?_); refine goesL_ (some 5) rfl rfl Try.func15 (by kernel_rfl) rfl #[.slice Ao12 y196.length co12, .int .i64 4] rfl (by (try simp only [List.map_toArray, List.map_cons, List.map_nil]); first | done | rfl | (simp only [List.length_drop, List.length_take]; rfl)) ?_; (with_reducible refine (parts_Bounds.calls _ _ y196 4 t199 t200 _ ?side1 ?side2 A1.out).mono ?_); (case side1 => repeat (first | exact (Kd.R_reads' HO198.out).2.2 | (with_reducible refine Kd.C_alloc ?_ _) | (with_reducible refine Kd.C_drewN ?_ _) | (with_reducible refine Kd.C_drew ?_))); (case side2 => exact (Kd.R_reads' HO198.out).2.1); rintro e w13 ⟨v201, rfl, ho0, hb⟩; refine ⟨_, rfl, ?_⟩; have n0_ := Aside0.mk (Kd.R_elder' (by (with_reducible repeat (first | apply Kd.R_alloc | apply Kd.R_drewN | apply Kd.R_drew)); exact HO198.out) (Kd.R_base ho0) hb); have n1_ := Aside0.mk (Kd.R_lower (Kd.R_new' ho0 (Kd.R_lt (by (with_reducible repeat (first | apply Kd.R_alloc | apply Kd.R_drewN | apply Kd.R_drew)); exact HO198.out))) (below_size (by repeat (first | (with_reducible first | exact HB.out | apply below_alloc | apply pw_below_drewN | apply below_drew1) | exact HB.out)))); have n2_ := Aside0.mk (below_step (by repeat (first | (with_reducible first | exact HB.out | apply below_alloc | apply pw_below_drewN | apply below_drew1) | exact HB.out)) hb); clear HO198; clear HB; have HO198 := n0_; have HO202 := n1_; have HB := n2_; clear n0_ n1_ n2_; (try clear hb); (try clear hb2); (try clear hk); (try clear hi); (try clear ho0)) | ((with_reducible refine gate_dst (N := 12) rfl ?_); (try (refine gate_guard (by rfl) ?_; dsimp only)); refine Kd.R_lit Kd.string _ 9 ?hg (N := 12) ?hd (xs := ([(⟨#[98]⟩ : ByteArray), (⟨#[99]⟩ : ByteArray), (⟨#[100]⟩ : ByteArray)] : List ByteArray)) (inner := [.string (⟨#[98]⟩ : ByteArray), .string (⟨#[99]⟩ : ByteArray), .string (⟨#[100]⟩ : ByteArray)]) (ok := fun _ => True) (okp := fun _ => True) ?hr ?hp (fun _ hk => hk) trivial (Below.refl _ _) (Nat.le_refl _) (by simp) ?_; (case hd => rfl); (case hg => rfl); (case hr => first | (go_simp; done) | (go_simp; rfl)); (case hp => exact (Reps.one (show Kd.M Kd.string _ _ _ (⟨#[98]⟩ : ByteArray) [.string (⟨#[98]⟩ : ByteArray)] from rfl) (Reps.one (show Kd.M Kd.string _ _ _ (⟨#[99]⟩ : ByteArray) [.string (⟨#[99]⟩ : ByteArray)] from rfl) (Reps.one (show Kd.M Kd.string _ _ _ (⟨#[100]⟩ : ByteArray) [.string (⟨#[100]⟩ : ByteArray)] from rfl) (Reps.none _ _))))); intro v204 w14 ho15 hb hg_ hnew_; clear hg_ hnew_; (first | rw [← Ny203.out] at ho15 | (simp only [Int.reduceToNat] at ho15; rw [← Ny203.out] at ho15)); have n0_ := Aside0.mk (Kd.R_elder' (by (with_reducible repeat (first | apply Kd.R_alloc | apply Kd.R_drewN | apply Kd.R_drew)); exact HO198.out) (Kd.R_base ho15) hb); have n1_ := Aside0.mk (Kd.R_elder' (by (with_reducible repeat (first | apply Kd.R_alloc | apply Kd.R_drewN | apply Kd.R_drew)); exact HO202.out) (Kd.R_base ho15) hb); have n2_ := Aside0.mk (Kd.R_lower (Kd.R_new' (Kd.R_new' ho15 (Kd.R_lt (by (with_reducible repeat (first | apply Kd.R_alloc | apply Kd.R_drewN | apply Kd.R_drew)); exact HO198.out))) (Kd.R_lt (by (with_reducible repeat (first | apply Kd.R_alloc | apply Kd.R_drewN | apply Kd.R_drew)); exact HO202.out))) (below_size (by repeat (first | (with_reducible first | exact HB.out | apply below_alloc | apply pw_below_drewN | apply below_drew1) | exact HB.out)))); have n3_ := Aside0.mk (below_step (by repeat (first | (with_reducible first | exact HB.out | apply below_alloc | apply pw_below_drewN | apply below_drew1) | exact HB.out)) hb); clear HO198; clear HO202; clear HB; have HO198 := n0_; have HO202 := n1_; have HO205 := n2_; have HB := n3_; clear n0_ n1_ n2_ n3_; clear hb ho15; obtain ⟨Ao16, co16, eo16⟩ := Kd.R_slice HO202.out; subst eo16; obtain ⟨Ao17, co17, eo17⟩ := Kd.R_slice HO205.out; subst eo17) | (go_at_call 16; (with_reducible refine (winnowlaw14_sameTexts.calls k _ _ t199 _ _ y203 true _ ?side1 ?side2 ?side3 ?side4 A3.out).mono ?_); (case side1 => repeat (first | exact (Kd.R_reads' HO202.out).2.2 | (with_reducible refine Kd.C_alloc ?_ _) | (with_reducible refine Kd.C_drewN ?_ _) | (with_reducible refine Kd.C_drew ?_))); (case side2 => exact (Kd.R_reads' HO202.out).2.1); (case side3 => repeat (first | exact (Kd.R_reads' HO205.out).2.2 | (with_reducible refine Kd.C_alloc ?_ _) | (with_reducible refine Kd.C_drewN ?_ _) | (with_reducible refine Kd.C_drew ?_))); (case side4 => exact (Kd.R_reads' HO205.out).2.1); rintro e w' ⟨rfl, ⟨nd, rfl⟩⟩) | (go_at_call 18; (with_reducible refine (parts_Range.calls k _ _ t199 (⟨#[97]⟩ : ByteArray) t207 _ ?side1 ?side2 A5.out).mono ?_); (case side1 => repeat (first | exact (Kd.R_reads' HO202.out).2.2 | (with_reducible refine Kd.C_alloc ?_ _) | (with_reducible refine Kd.C_drewN ?_ _) | (with_reducible refine Kd.C_drew ?_))); (case side2 => exact (Kd.R_reads' HO202.out).2.1); rintro e w18 ⟨rfl, hb⟩; have n0_ := Aside0.mk (Kd.R_below (by (with_reducible repeat (first | apply Kd.R_alloc | apply Kd.R_drewN | apply Kd.R_drew)); exact HO198.out) hb); have n1_ := Aside0.mk (Kd.R_below (by (with_reducible repeat (first | apply Kd.R_alloc | apply Kd.R_drewN | apply Kd.R_drew)); exact HO202.out) hb); have n2_ := Aside0.mk (Kd.R_below (by (with_reducible repeat (first | apply Kd.R_alloc | apply Kd.R_drewN | apply Kd.R_drew)); exact HO205.out) hb); have n3_ := Aside0.mk (below_step (by repeat (first | (with_reducible first | exact HB.out | apply below_alloc | apply pw_below_drewN | apply below_drew1) | exact HB.out)) hb); clear HO198; clear HO202; clear HO205; clear HB; have HO198 := n0_; have HO202 := n1_; have HO205 := n2_; have HB := n3_; clear n0_ n1_ n2_ n3_; (try clear hb); (try clear hb2); (try clear hk); (try clear hi)) | (go_at_call 18; (with_reducible refine (parts_Range.calls k _ _ t199 (⟨#[98]⟩ : ByteArray) t208 _ ?side1 ?side2 A7.out).mono ?_); (case side1 => repeat (first | exact (Kd.R_reads' HO202.out).2.2 | (with_reducible refine Kd.C_alloc ?_ _) | (with_reducible refine Kd.C_drewN ?_ _) | (with_reducible refine Kd.C_drew ?_))); (case side2 => exact (Kd.R_reads' HO202.out).2.1); rintro e w19 ⟨rfl, hb⟩; have n0_ := Aside0.mk (Kd.R_below (by (with_reducible repeat (first | apply Kd.R_alloc | apply Kd.R_drewN | apply Kd.R_drew)); exact HO198.out) hb); have n1_ := Aside0.mk (Kd.R_below (by (with_reducible repeat (first | apply Kd.R_alloc | apply Kd.R_drewN | apply Kd.R_drew)); exact HO202.out) hb); have n2_ := Aside0.mk (Kd.R_below (by (with_reducible repeat (first | apply Kd.R_alloc | apply Kd.R_drewN | apply Kd.R_drew)); exact HO205.out) hb); have n3_ := Aside0.mk (below_step (by repeat (first | (with_reducible first | exact HB.out | apply below_alloc | apply pw_below_drewN | apply below_drew1) | exact HB.out)) hb); clear HO198; clear HO202; clear HO205; clear HB; have HO198 := n0_; have HO202 := n1_; have HO205 := n2_; have HB := n3_; clear n0_ n1_ n2_ n3_; (try clear hb); (try clear hb2); (try clear hk); (try clear hi)) | (go_at_call 18; (with_reducible refine (parts_Range.calls k _ _ t199 (⟨#[122]⟩ : ByteArray) t209 _ ?side1 ?side2 A9.out).mono ?_); (case side1 => repeat (first | exact (Kd.R_reads' HO202.out).2.2 | (with_reducible refine Kd.C_alloc ?_ _) | (with_reducible refine Kd.C_drewN ?_ _) | (with_reducible refine Kd.C_drew ?_))); (case side2 => exact (Kd.R_reads' HO202.out).2.1); rintro e w20 ⟨rfl, hb⟩; have n0_ := Aside0.mk (Kd.R_below (by (with_reducible repeat (first | apply Kd.R_alloc | apply Kd.R_drewN | apply Kd.R_drew)); exact HO198.out) hb); have n1_ := Aside0.mk (Kd.R_below (by (with_reducible repeat (first | apply Kd.R_alloc | apply Kd.R_drewN | apply Kd.R_drew)); exact HO202.out) hb); have n2_ := Aside0.mk (Kd.R_below (by (with_reducible repeat (first | apply Kd.R_alloc | apply Kd.R_drewN | apply Kd.R_drew)); exact HO205.out) hb); have n3_ := Aside0.mk (below_step (by repeat (first | (with_reducible first | exact HB.out | apply below_alloc | apply pw_below_drewN | apply below_drew1) | exact HB.out)) hb); clear HO198; clear HO202; clear HO205; clear HB; have HO198 := n0_; have HO202 := n1_; have HO205 := n2_; have HB := n3_; clear n0_ n1_ n2_ n3_; (try clear hb); (try clear hb2); (try clear hk); (try clear hi)))
          go_ret
          exact ⟨by first | rfl | (simp [errW_none, errW_some] <;> rfl) | (simp [*, errW_none, errW_some] <;> rfl), by repeat (first | (with_reducible first | exact HB.out | apply below_alloc | apply pw_below_drewN | apply below_drew1) | exact HB.out)⟩
        · rw [if_neg c8] at H
          have c8b0 : (t208 == 1) = false := beq_eq_false_iff_ne.mpr c8
          have c8b1 : (t208 != 1) = true := bne_iff_ne.mpr c8
          obtain rfl := Option.some.inj H
          go_enter Try.func17, Try.ntmps17
          go_wp2_with (first | ((with_reducible refine gate_dst (N := 4) rfl ?_); (try (refine gate_guard (by rfl) ?_; dsimp only)); refine Kd.R_lit Kd.string _ 9 ?hg (N := 4) ?hd (xs := ([(⟨#[100]⟩ : ByteArray), (⟨#[98]⟩ : ByteArray), (⟨#[97]⟩ : ByteArray), (⟨#[99]⟩ : ByteArray)] : List ByteArray)) (inner := [.string (⟨#[100]⟩ : ByteArray), .string (⟨#[98]⟩ : ByteArray), .string (⟨#[97]⟩ : ByteArray), .string (⟨#[99]⟩ : ByteArray)]) (ok := fun _ => True) (okp := fun _ => True) ?hr ?hp (fun _ hk => hk) trivial (Below.refl _ _) (Nat.le_refl _) (by simp) ?_; (case hd => rfl); (case hg => rfl); (case hr => first | (go_simp; done) | (go_simp; rfl)); (case hp => exact (Reps.one (show Kd.M Kd.string _ _ _ (⟨#[100]⟩ : ByteArray) [.string (⟨#[100]⟩ : ByteArray)] from rfl) (Reps.one (show Kd.M Kd.string _ _ _ (⟨#[98]⟩ : ByteArray) [.string (⟨#[98]⟩ : ByteArray)] from rfl) (Reps.one (show Kd.M Kd.string _ _ _ (⟨#[97]⟩ : ByteArray) [.string (⟨#[97]⟩ : ByteArray)] from rfl) (Reps.one (show Kd.M Kd.string _ _ _ (⟨#[99]⟩ : ByteArray) [.string (⟨#[99]⟩ : ByteArray)] from rfl) (Reps.none _ _)))))); intro v197 w21 ho22 hb hg_ hnew_; clear hg_ hnew_; (first | rw [← Ny196.out] at ho22 | (simp only [Int.reduceToNat] at ho22; rw [← Ny196.out] at ho22)); have n0_ := Aside0.mk (Kd.R_lower ho22 (below_size (by repeat (first | (with_reducible first | exact HB.out | apply below_alloc | apply pw_below_drewN | apply below_drew1) | exact HB.out)))); have n1_ := Aside0.mk (below_step (by repeat (first | (with_reducible first | exact HB.out | apply below_alloc | apply pw_below_drewN | apply below_drew1) | exact HB.out)) hb); clear HB; have HO198 := n0_; have HB := n1_; clear n0_ n1_; clear hb ho22; obtain ⟨Ao23, co23, eo23⟩ := Kd.R_slice HO198.out; subst eo23) | ((with_reducible refine gate_callee (f := 15) rfl ?_); refine goesL_ (some 5) rfl rfl Try.func15 (by kernel_rfl) rfl #[.slice Ao23 y196.length co23, .int .i64 4] rfl (by (try simp only [List.map_toArray, List.map_cons, List.map_nil]); first | done | rfl | (simp only [List.length_drop, List.length_take]; rfl)) ?_; (with_reducible refine (parts_Bounds.calls _ _ y196 4 t199 t200 _ ?side1 ?side2 A1.out).mono ?_); (case side1 => repeat (first | exact (Kd.R_reads' HO198.out).2.2 | (with_reducible refine Kd.C_alloc ?_ _) | (with_reducible refine Kd.C_drewN ?_ _) | (with_reducible refine Kd.C_drew ?_))); (case side2 => exact (Kd.R_reads' HO198.out).2.1); rintro e w24 ⟨v201, rfl, ho0, hb⟩; refine ⟨_, rfl, ?_⟩; have n0_ := Aside0.mk (Kd.R_elder' (by (with_reducible repeat (first | apply Kd.R_alloc | apply Kd.R_drewN | apply Kd.R_drew)); exact HO198.out) (Kd.R_base ho0) hb); have n1_ := Aside0.mk (Kd.R_lower (Kd.R_new' ho0 (Kd.R_lt (by (with_reducible repeat (first | apply Kd.R_alloc | apply Kd.R_drewN | apply Kd.R_drew)); exact HO198.out))) (below_size (by repeat (first | (with_reducible first | exact HB.out | apply below_alloc | apply pw_below_drewN | apply below_drew1) | exact HB.out)))); have n2_ := Aside0.mk (below_step (by repeat (first | (with_reducible first | exact HB.out | apply below_alloc | apply pw_below_drewN | apply below_drew1) | exact HB.out)) hb); clear HO198; clear HB; have HO198 := n0_; have HO202 := n1_; have HB := n2_; clear n0_ n1_ n2_; (try clear hb); (try clear hb2); (try clear hk); (try clear hi); (try clear ho0)) | ((with_reducible refine gate_dst (N := 12) rfl ?_); (try (refine gate_guard (by rfl) ?_; dsimp only)); refine Kd.R_lit Kd.string _ 9 ?hg (N := 12) ?hd (xs := ([(⟨#[98]⟩ : ByteArray), (⟨#[99]⟩ : ByteArray), (⟨#[100]⟩ : ByteArray)] : List ByteArray)) (inner := [.string (⟨#[98]⟩ : ByteArray), .string (⟨#[99]⟩ : ByteArray), .string (⟨#[100]⟩ : ByteArray)]) (ok := fun _ => True) (okp := fun _ => True) ?hr ?hp (fun _ hk => hk) trivial (Below.refl _ _) (Nat.le_refl _) (by simp) ?_; (case hd => rfl); (case hg => rfl); (case hr => first | (go_simp; done) | (go_simp; rfl)); (case hp => exact (Reps.one (show Kd.M Kd.string _ _ _ (⟨#[98]⟩ : ByteArray) [.string (⟨#[98]⟩ : ByteArray)] from rfl) (Reps.one (show Kd.M Kd.string _ _ _ (⟨#[99]⟩ : ByteArray) [.string (⟨#[99]⟩ : ByteArray)] from rfl) (Reps.one (show Kd.M Kd.string _ _ _ (⟨#[100]⟩ : ByteArray) [.string (⟨#[100]⟩ : ByteArray)] from rfl) (Reps.none _ _))))); intro v204 w25 ho26 hb hg_ hnew_; clear hg_ hnew_; (first | rw [← Ny203.out] at ho26 | (simp only [Int.reduceToNat] at ho26; rw [← Ny203.out] at ho26)); have n0_ := Aside0.mk (Kd.R_elder' (by (with_reducible repeat (first | apply Kd.R_alloc | apply Kd.R_drewN | apply Kd.R_drew)); exact HO198.out) (Kd.R_base ho26) hb); have n1_ := Aside0.mk (Kd.R_elder' (by (with_reducible repeat (first | apply Kd.R_alloc | apply Kd.R_drewN | apply Kd.R_drew)); exact HO202.out) (Kd.R_base ho26) hb); have n2_ := Aside0.mk (Kd.R_lower (Kd.R_new' (Kd.R_new' ho26 (Kd.R_lt (by (with_reducible repeat (first | apply Kd.R_alloc | apply Kd.R_drewN | apply Kd.R_drew)); exact HO198.out))) (Kd.R_lt (by (with_reducible repeat (first | apply Kd.R_alloc | apply Kd.R_drewN | apply Kd.R_drew)); exact HO202.out))) (below_size (by repeat (first | (with_reducible first | exact HB.out | apply below_alloc | apply pw_below_drewN | apply below_drew1) | exact HB.out)))); have n3_ := Aside0.mk (below_step (by repeat (first | (with_reducible first | exact HB.out | apply below_alloc | apply pw_below_drewN | apply below_drew1) | exact HB.out)) hb); clear HO198; clear HO202; clear HB; have HO198 := n0_; have HO202 := n1_; have HO205 := n2_; have HB := n3_; clear n0_ n1_ n2_ n3_; clear hb ho26; obtain ⟨Ao27, co27, eo27⟩ := Kd.R_slice HO202.out; subst eo27; obtain ⟨Ao28, co28, eo28⟩ := Kd.R_slice HO205.out; subst eo28) | (go_at_call 16; (with_reducible refine (winnowlaw14_sameTexts.calls k _ _ t199 _ _ y203 true _ ?side1 ?side2 ?side3 ?side4 A3.out).mono ?_); (case side1 => repeat (first | exact (Kd.R_reads' HO202.out).2.2 | (with_reducible refine Kd.C_alloc ?_ _) | (with_reducible refine Kd.C_drewN ?_ _) | (with_reducible refine Kd.C_drew ?_))); (case side2 => exact (Kd.R_reads' HO202.out).2.1); (case side3 => repeat (first | exact (Kd.R_reads' HO205.out).2.2 | (with_reducible refine Kd.C_alloc ?_ _) | (with_reducible refine Kd.C_drewN ?_ _) | (with_reducible refine Kd.C_drew ?_))); (case side4 => exact (Kd.R_reads' HO205.out).2.1); rintro e w' ⟨rfl, ⟨nd, rfl⟩⟩) | (go_at_call 18; (with_reducible refine (parts_Range.calls k _ _ t199 (⟨#[97]⟩ : ByteArray) t207 _ ?side1 ?side2 A5.out).mono ?_); (case side1 => repeat (first | exact (Kd.R_reads' HO202.out).2.2 | (with_reducible refine Kd.C_alloc ?_ _) | (with_reducible refine Kd.C_drewN ?_ _) | (with_reducible refine Kd.C_drew ?_))); (case side2 => exact (Kd.R_reads' HO202.out).2.1); rintro e w29 ⟨rfl, hb⟩; have n0_ := Aside0.mk (Kd.R_below (by (with_reducible repeat (first | apply Kd.R_alloc | apply Kd.R_drewN | apply Kd.R_drew)); exact HO198.out) hb); have n1_ := Aside0.mk (Kd.R_below (by (with_reducible repeat (first | apply Kd.R_alloc | apply Kd.R_drewN | apply Kd.R_drew)); exact HO202.out) hb); have n2_ := Aside0.mk (Kd.R_below (by (with_reducible repeat (first | apply Kd.R_alloc | apply Kd.R_drewN | apply Kd.R_drew)); exact HO205.out) hb); have n3_ := Aside0.mk (below_step (by repeat (first | (with_reducible first | exact HB.out | apply below_alloc | apply pw_below_drewN | apply below_drew1) | exact HB.out)) hb); clear HO198; clear HO202; clear HO205; clear HB; have HO198 := n0_; have HO202 := n1_; have HO205 := n2_; have HB := n3_; clear n0_ n1_ n2_ n3_; (try clear hb); (try clear hb2); (try clear hk); (try clear hi)) | (go_at_call 18; (with_reducible refine (parts_Range.calls k _ _ t199 (⟨#[98]⟩ : ByteArray) t208 _ ?side1 ?side2 A7.out).mono ?_); (case side1 => repeat (first | exact (Kd.R_reads' HO202.out).2.2 | (with_reducible refine Kd.C_alloc ?_ _) | (with_reducible refine Kd.C_drewN ?_ _) | (with_reducible refine Kd.C_drew ?_))); (case side2 => exact (Kd.R_reads' HO202.out).2.1); rintro e w30 ⟨rfl, hb⟩; have n0_ := Aside0.mk (Kd.R_below (by (with_reducible repeat (first | apply Kd.R_alloc | apply Kd.R_drewN | apply Kd.R_drew)); exact HO198.out) hb); have n1_ := Aside0.mk (Kd.R_below (by (with_reducible repeat (first | apply Kd.R_alloc | apply Kd.R_drewN | apply Kd.R_drew)); exact HO202.out) hb); have n2_ := Aside0.mk (Kd.R_below (by (with_reducible repeat (first | apply Kd.R_alloc | apply Kd.R_drewN | apply Kd.R_drew)); exact HO205.out) hb); have n3_ := Aside0.mk (below_step (by repeat (first | (with_reducible first | exact HB.out | apply below_alloc | apply pw_below_drewN | apply below_drew1) | exact HB.out)) hb); clear HO198; clear HO202; clear HO205; clear HB; have HO198 := n0_; have HO202 := n1_; have HO205 := n2_; have HB := n3_; clear n0_ n1_ n2_ n3_; (try clear hb); (try clear hb2); (try clear hk); (try clear hi)))
          go_ret
          exact ⟨by first | rfl | (simp [errW_none, errW_some] <;> rfl) | (simp [*, errW_none, errW_some] <;> rfl), by repeat (first | (with_reducible first | exact HB.out | apply below_alloc | apply pw_below_drewN | apply below_drew1) | exact HB.out)⟩
      · rw [if_neg c6] at H
        have c6b0 : (t207 == 0) = false := beq_eq_false_iff_ne.mpr c6
        have c6b1 : (t207 != 0) = true := bne_iff_ne.mpr c6
        obtain rfl := Option.some.inj H
        go_enter Try.func17, Try.ntmps17
        go_wp2_with (first | ((with_reducible refine gate_dst (N := 4) rfl ?_); (try (refine gate_guard (by rfl) ?_; dsimp only)); refine Kd.R_lit Kd.string _ 9 ?hg (N := 4) ?hd (xs := ([(⟨#[100]⟩ : ByteArray), (⟨#[98]⟩ : ByteArray), (⟨#[97]⟩ : ByteArray), (⟨#[99]⟩ : ByteArray)] : List ByteArray)) (inner := [.string (⟨#[100]⟩ : ByteArray), .string (⟨#[98]⟩ : ByteArray), .string (⟨#[97]⟩ : ByteArray), .string (⟨#[99]⟩ : ByteArray)]) (ok := fun _ => True) (okp := fun _ => True) ?hr ?hp (fun _ hk => hk) trivial (Below.refl _ _) (Nat.le_refl _) (by simp) ?_; (case hd => rfl); (case hg => rfl); (case hr => first | (go_simp; done) | (go_simp; rfl)); (case hp => exact (Reps.one (show Kd.M Kd.string _ _ _ (⟨#[100]⟩ : ByteArray) [.string (⟨#[100]⟩ : ByteArray)] from rfl) (Reps.one (show Kd.M Kd.string _ _ _ (⟨#[98]⟩ : ByteArray) [.string (⟨#[98]⟩ : ByteArray)] from rfl) (Reps.one (show Kd.M Kd.string _ _ _ (⟨#[97]⟩ : ByteArray) [.string (⟨#[97]⟩ : ByteArray)] from rfl) (Reps.one (show Kd.M Kd.string _ _ _ (⟨#[99]⟩ : ByteArray) [.string (⟨#[99]⟩ : ByteArray)] from rfl) (Reps.none _ _)))))); intro v197 w31 ho32 hb hg_ hnew_; clear hg_ hnew_; (first | rw [← Ny196.out] at ho32 | (simp only [Int.reduceToNat] at ho32; rw [← Ny196.out] at ho32)); have n0_ := Aside0.mk (Kd.R_lower ho32 (below_size (by repeat (first | (with_reducible first | exact HB.out | apply below_alloc | apply pw_below_drewN | apply below_drew1) | exact HB.out)))); have n1_ := Aside0.mk (below_step (by repeat (first | (with_reducible first | exact HB.out | apply below_alloc | apply pw_below_drewN | apply below_drew1) | exact HB.out)) hb); clear HB; have HO198 := n0_; have HB := n1_; clear n0_ n1_; clear hb ho32; obtain ⟨Ao33, co33, eo33⟩ := Kd.R_slice HO198.out; subst eo33) | ((with_reducible refine gate_callee (f := 15) rfl ?_); refine goesL_ (some 5) rfl rfl Try.func15 (by kernel_rfl) rfl #[.slice Ao33 y196.length co33, .int .i64 4] rfl (by (try simp only [List.map_toArray, List.map_cons, List.map_nil]); first | done | rfl | (simp only [List.length_drop, List.length_take]; rfl)) ?_; (with_reducible refine (parts_Bounds.calls _ _ y196 4 t199 t200 _ ?side1 ?side2 A1.out).mono ?_); (case side1 => repeat (first | exact (Kd.R_reads' HO198.out).2.2 | (with_reducible refine Kd.C_alloc ?_ _) | (with_reducible refine Kd.C_drewN ?_ _) | (with_reducible refine Kd.C_drew ?_))); (case side2 => exact (Kd.R_reads' HO198.out).2.1); rintro e w34 ⟨v201, rfl, ho0, hb⟩; refine ⟨_, rfl, ?_⟩; have n0_ := Aside0.mk (Kd.R_elder' (by (with_reducible repeat (first | apply Kd.R_alloc | apply Kd.R_drewN | apply Kd.R_drew)); exact HO198.out) (Kd.R_base ho0) hb); have n1_ := Aside0.mk (Kd.R_lower (Kd.R_new' ho0 (Kd.R_lt (by (with_reducible repeat (first | apply Kd.R_alloc | apply Kd.R_drewN | apply Kd.R_drew)); exact HO198.out))) (below_size (by repeat (first | (with_reducible first | exact HB.out | apply below_alloc | apply pw_below_drewN | apply below_drew1) | exact HB.out)))); have n2_ := Aside0.mk (below_step (by repeat (first | (with_reducible first | exact HB.out | apply below_alloc | apply pw_below_drewN | apply below_drew1) | exact HB.out)) hb); clear HO198; clear HB; have HO198 := n0_; have HO202 := n1_; have HB := n2_; clear n0_ n1_ n2_; (try clear hb); (try clear hb2); (try clear hk); (try clear hi); (try clear ho0)) | ((with_reducible refine gate_dst (N := 12) rfl ?_); (try (refine gate_guard (by rfl) ?_; dsimp only)); refine Kd.R_lit Kd.string _ 9 ?hg (N := 12) ?hd (xs := ([(⟨#[98]⟩ : ByteArray), (⟨#[99]⟩ : ByteArray), (⟨#[100]⟩ : ByteArray)] : List ByteArray)) (inner := [.string (⟨#[98]⟩ : ByteArray), .string (⟨#[99]⟩ : ByteArray), .string (⟨#[100]⟩ : ByteArray)]) (ok := fun _ => True) (okp := fun _ => True) ?hr ?hp (fun _ hk => hk) trivial (Below.refl _ _) (Nat.le_refl _) (by simp) ?_; (case hd => rfl); (case hg => rfl); (case hr => first | (go_simp; done) | (go_simp; rfl)); (case hp => exact (Reps.one (show Kd.M Kd.string _ _ _ (⟨#[98]⟩ : ByteArray) [.string (⟨#[98]⟩ : ByteArray)] from rfl) (Reps.one (show Kd.M Kd.string _ _ _ (⟨#[99]⟩ : ByteArray) [.string (⟨#[99]⟩ : ByteArray)] from rfl) (Reps.one (show Kd.M Kd.string _ _ _ (⟨#[100]⟩ : ByteArray) [.string (⟨#[100]⟩ : ByteArray)] from rfl) (Reps.none _ _))))); intro v204 w35 ho36 hb hg_ hnew_; clear hg_ hnew_; (first | rw [← Ny203.out] at ho36 | (simp only [Int.reduceToNat] at ho36; rw [← Ny203.out] at ho36)); have n0_ := Aside0.mk (Kd.R_elder' (by (with_reducible repeat (first | apply Kd.R_alloc | apply Kd.R_drewN | apply Kd.R_drew)); exact HO198.out) (Kd.R_base ho36) hb); have n1_ := Aside0.mk (Kd.R_elder' (by (with_reducible repeat (first | apply Kd.R_alloc | apply Kd.R_drewN | apply Kd.R_drew)); exact HO202.out) (Kd.R_base ho36) hb); have n2_ := Aside0.mk (Kd.R_lower (Kd.R_new' (Kd.R_new' ho36 (Kd.R_lt (by (with_reducible repeat (first | apply Kd.R_alloc | apply Kd.R_drewN | apply Kd.R_drew)); exact HO198.out))) (Kd.R_lt (by (with_reducible repeat (first | apply Kd.R_alloc | apply Kd.R_drewN | apply Kd.R_drew)); exact HO202.out))) (below_size (by repeat (first | (with_reducible first | exact HB.out | apply below_alloc | apply pw_below_drewN | apply below_drew1) | exact HB.out)))); have n3_ := Aside0.mk (below_step (by repeat (first | (with_reducible first | exact HB.out | apply below_alloc | apply pw_below_drewN | apply below_drew1) | exact HB.out)) hb); clear HO198; clear HO202; clear HB; have HO198 := n0_; have HO202 := n1_; have HO205 := n2_; have HB := n3_; clear n0_ n1_ n2_ n3_; clear hb ho36; obtain ⟨Ao37, co37, eo37⟩ := Kd.R_slice HO202.out; subst eo37; obtain ⟨Ao38, co38, eo38⟩ := Kd.R_slice HO205.out; subst eo38) | (go_at_call 16; (with_reducible refine (winnowlaw14_sameTexts.calls k _ _ t199 _ _ y203 true _ ?side1 ?side2 ?side3 ?side4 A3.out).mono ?_); (case side1 => repeat (first | exact (Kd.R_reads' HO202.out).2.2 | (with_reducible refine Kd.C_alloc ?_ _) | (with_reducible refine Kd.C_drewN ?_ _) | (with_reducible refine Kd.C_drew ?_))); (case side2 => exact (Kd.R_reads' HO202.out).2.1); (case side3 => repeat (first | exact (Kd.R_reads' HO205.out).2.2 | (with_reducible refine Kd.C_alloc ?_ _) | (with_reducible refine Kd.C_drewN ?_ _) | (with_reducible refine Kd.C_drew ?_))); (case side4 => exact (Kd.R_reads' HO205.out).2.1); rintro e w' ⟨rfl, ⟨nd, rfl⟩⟩) | (go_at_call 18; (with_reducible refine (parts_Range.calls k _ _ t199 (⟨#[97]⟩ : ByteArray) t207 _ ?side1 ?side2 A5.out).mono ?_); (case side1 => repeat (first | exact (Kd.R_reads' HO202.out).2.2 | (with_reducible refine Kd.C_alloc ?_ _) | (with_reducible refine Kd.C_drewN ?_ _) | (with_reducible refine Kd.C_drew ?_))); (case side2 => exact (Kd.R_reads' HO202.out).2.1); rintro e w39 ⟨rfl, hb⟩; have n0_ := Aside0.mk (Kd.R_below (by (with_reducible repeat (first | apply Kd.R_alloc | apply Kd.R_drewN | apply Kd.R_drew)); exact HO198.out) hb); have n1_ := Aside0.mk (Kd.R_below (by (with_reducible repeat (first | apply Kd.R_alloc | apply Kd.R_drewN | apply Kd.R_drew)); exact HO202.out) hb); have n2_ := Aside0.mk (Kd.R_below (by (with_reducible repeat (first | apply Kd.R_alloc | apply Kd.R_drewN | apply Kd.R_drew)); exact HO205.out) hb); have n3_ := Aside0.mk (below_step (by repeat (first | (with_reducible first | exact HB.out | apply below_alloc | apply pw_below_drewN | apply below_drew1) | exact HB.out)) hb); clear HO198; clear HO202; clear HO205; clear HB; have HO198 := n0_; have HO202 := n1_; have HO205 := n2_; have HB := n3_; clear n0_ n1_ n2_ n3_; (try clear hb); (try clear hb2); (try clear hk); (try clear hi)))
        go_ret
        exact ⟨by first | rfl | (simp [errW_none, errW_some] <;> rfl) | (simp [*, errW_none, errW_some] <;> rfl), by repeat (first | (with_reducible first | exact HB.out | apply below_alloc | apply pw_below_drewN | apply below_drew1) | exact HB.out)⟩
    · replace c4 := Bool.eq_false_iff.mpr c4
      subst c4
      have H1 : (some false) = some r := by rw [if_neg (show ¬ (false = true) by decide)] at H; exact H
      clear H
      have H := H1
      clear H1
      obtain rfl := Option.some.inj H
      go_enter Try.func17, Try.ntmps17
      go_wp2_with (first | ((with_reducible refine gate_dst (N := 4) rfl ?_); (try (refine gate_guard (by rfl) ?_; dsimp only)); refine Kd.R_lit Kd.string _ 9 ?hg (N := 4) ?hd (xs := ([(⟨#[100]⟩ : ByteArray), (⟨#[98]⟩ : ByteArray), (⟨#[97]⟩ : ByteArray), (⟨#[99]⟩ : ByteArray)] : List ByteArray)) (inner := [.string (⟨#[100]⟩ : ByteArray), .string (⟨#[98]⟩ : ByteArray), .string (⟨#[97]⟩ : ByteArray), .string (⟨#[99]⟩ : ByteArray)]) (ok := fun _ => True) (okp := fun _ => True) ?hr ?hp (fun _ hk => hk) trivial (Below.refl _ _) (Nat.le_refl _) (by simp) ?_; (case hd => rfl); (case hg => rfl); (case hr => first | (go_simp; done) | (go_simp; rfl)); (case hp => exact (Reps.one (show Kd.M Kd.string _ _ _ (⟨#[100]⟩ : ByteArray) [.string (⟨#[100]⟩ : ByteArray)] from rfl) (Reps.one (show Kd.M Kd.string _ _ _ (⟨#[98]⟩ : ByteArray) [.string (⟨#[98]⟩ : ByteArray)] from rfl) (Reps.one (show Kd.M Kd.string _ _ _ (⟨#[97]⟩ : ByteArray) [.string (⟨#[97]⟩ : ByteArray)] from rfl) (Reps.one (show Kd.M Kd.string _ _ _ (⟨#[99]⟩ : ByteArray) [.string (⟨#[99]⟩ : ByteArray)] from rfl) (Reps.none _ _)))))); intro v197 w40 ho41 hb hg_ hnew_; clear hg_ hnew_; (first | rw [← Ny196.out] at ho41 | (simp only [Int.reduceToNat] at ho41; rw [← Ny196.out] at ho41)); have n0_ := Aside0.mk (Kd.R_lower ho41 (below_size (by repeat (first | (with_reducible first | exact HB.out | apply below_alloc | apply pw_below_drewN | apply below_drew1) | exact HB.out)))); have n1_ := Aside0.mk (below_step (by repeat (first | (with_reducible first | exact HB.out | apply below_alloc | apply pw_below_drewN | apply below_drew1) | exact HB.out)) hb); clear HB; have HO198 := n0_; have HB := n1_; clear n0_ n1_; clear hb ho41; obtain ⟨Ao42, co42, eo42⟩ := Kd.R_slice HO198.out; subst eo42) | ((with_reducible refine gate_callee (f := 15) rfl ?_); refine goesL_ (some 5) rfl rfl Try.func15 (by kernel_rfl) rfl #[.slice Ao42 y196.length co42, .int .i64 4] rfl (by (try simp only [List.map_toArray, List.map_cons, List.map_nil]); first | done | rfl | (simp only [List.length_drop, List.length_take]; rfl)) ?_; (with_reducible refine (parts_Bounds.calls _ _ y196 4 t199 t200 _ ?side1 ?side2 A1.out).mono ?_); (case side1 => repeat (first | exact (Kd.R_reads' HO198.out).2.2 | (with_reducible refine Kd.C_alloc ?_ _) | (with_reducible refine Kd.C_drewN ?_ _) | (with_reducible refine Kd.C_drew ?_))); (case side2 => exact (Kd.R_reads' HO198.out).2.1); rintro e w43 ⟨v201, rfl, ho0, hb⟩; refine ⟨_, rfl, ?_⟩; have n0_ := Aside0.mk (Kd.R_elder' (by (with_reducible repeat (first | apply Kd.R_alloc | apply Kd.R_drewN | apply Kd.R_drew)); exact HO198.out) (Kd.R_base ho0) hb); have n1_ := Aside0.mk (Kd.R_lower (Kd.R_new' ho0 (Kd.R_lt (by (with_reducible repeat (first | apply Kd.R_alloc | apply Kd.R_drewN | apply Kd.R_drew)); exact HO198.out))) (below_size (by repeat (first | (with_reducible first | exact HB.out | apply below_alloc | apply pw_below_drewN | apply below_drew1) | exact HB.out)))); have n2_ := Aside0.mk (below_step (by repeat (first | (with_reducible first | exact HB.out | apply below_alloc | apply pw_below_drewN | apply below_drew1) | exact HB.out)) hb); clear HO198; clear HB; have HO198 := n0_; have HO202 := n1_; have HB := n2_; clear n0_ n1_ n2_; (try clear hb); (try clear hb2); (try clear hk); (try clear hi); (try clear ho0)) | ((with_reducible refine gate_dst (N := 12) rfl ?_); (try (refine gate_guard (by rfl) ?_; dsimp only)); refine Kd.R_lit Kd.string _ 9 ?hg (N := 12) ?hd (xs := ([(⟨#[98]⟩ : ByteArray), (⟨#[99]⟩ : ByteArray), (⟨#[100]⟩ : ByteArray)] : List ByteArray)) (inner := [.string (⟨#[98]⟩ : ByteArray), .string (⟨#[99]⟩ : ByteArray), .string (⟨#[100]⟩ : ByteArray)]) (ok := fun _ => True) (okp := fun _ => True) ?hr ?hp (fun _ hk => hk) trivial (Below.refl _ _) (Nat.le_refl _) (by simp) ?_; (case hd => rfl); (case hg => rfl); (case hr => first | (go_simp; done) | (go_simp; rfl)); (case hp => exact (Reps.one (show Kd.M Kd.string _ _ _ (⟨#[98]⟩ : ByteArray) [.string (⟨#[98]⟩ : ByteArray)] from rfl) (Reps.one (show Kd.M Kd.string _ _ _ (⟨#[99]⟩ : ByteArray) [.string (⟨#[99]⟩ : ByteArray)] from rfl) (Reps.one (show Kd.M Kd.string _ _ _ (⟨#[100]⟩ : ByteArray) [.string (⟨#[100]⟩ : ByteArray)] from rfl) (Reps.none _ _))))); intro v204 w44 ho45 hb hg_ hnew_; clear hg_ hnew_; (first | rw [← Ny203.out] at ho45 | (simp only [Int.reduceToNat] at ho45; rw [← Ny203.out] at ho45)); have n0_ := Aside0.mk (Kd.R_elder' (by (with_reducible repeat (first | apply Kd.R_alloc | apply Kd.R_drewN | apply Kd.R_drew)); exact HO198.out) (Kd.R_base ho45) hb); have n1_ := Aside0.mk (Kd.R_elder' (by (with_reducible repeat (first | apply Kd.R_alloc | apply Kd.R_drewN | apply Kd.R_drew)); exact HO202.out) (Kd.R_base ho45) hb); have n2_ := Aside0.mk (Kd.R_lower (Kd.R_new' (Kd.R_new' ho45 (Kd.R_lt (by (with_reducible repeat (first | apply Kd.R_alloc | apply Kd.R_drewN | apply Kd.R_drew)); exact HO198.out))) (Kd.R_lt (by (with_reducible repeat (first | apply Kd.R_alloc | apply Kd.R_drewN | apply Kd.R_drew)); exact HO202.out))) (below_size (by repeat (first | (with_reducible first | exact HB.out | apply below_alloc | apply pw_below_drewN | apply below_drew1) | exact HB.out)))); have n3_ := Aside0.mk (below_step (by repeat (first | (with_reducible first | exact HB.out | apply below_alloc | apply pw_below_drewN | apply below_drew1) | exact HB.out)) hb); clear HO198; clear HO202; clear HB; have HO198 := n0_; have HO202 := n1_; have HO205 := n2_; have HB := n3_; clear n0_ n1_ n2_ n3_; clear hb ho45; obtain ⟨Ao46, co46, eo46⟩ := Kd.R_slice HO202.out; subst eo46; obtain ⟨Ao47, co47, eo47⟩ := Kd.R_slice HO205.out; subst eo47) | (go_at_call 16; (with_reducible refine (winnowlaw14_sameTexts.calls k _ _ t199 _ _ y203 false _ ?side1 ?side2 ?side3 ?side4 A3.out).mono ?_); (case side1 => repeat (first | exact (Kd.R_reads' HO202.out).2.2 | (with_reducible refine Kd.C_alloc ?_ _) | (with_reducible refine Kd.C_drewN ?_ _) | (with_reducible refine Kd.C_drew ?_))); (case side2 => exact (Kd.R_reads' HO202.out).2.1); (case side3 => repeat (first | exact (Kd.R_reads' HO205.out).2.2 | (with_reducible refine Kd.C_alloc ?_ _) | (with_reducible refine Kd.C_drewN ?_ _) | (with_reducible refine Kd.C_drew ?_))); (case side4 => exact (Kd.R_reads' HO205.out).2.1); rintro e w' ⟨rfl, ⟨nd, rfl⟩⟩))
      go_ret
      exact ⟨by first | rfl | (simp [errW_none, errW_some] <;> rfl) | (simp [*, errW_none, errW_some] <;> rfl), by repeat (first | (with_reducible first | exact HB.out | apply below_alloc | apply pw_below_drewN | apply below_drew1) | exact HB.out)⟩
  · rw [if_neg c2] at H
    have c2b0 : (t200 == 0) = false := beq_eq_false_iff_ne.mpr c2
    have c2b1 : (t200 != 0) = true := bne_iff_ne.mpr c2
    obtain rfl := Option.some.inj H
    go_enter Try.func17, Try.ntmps17
    go_wp2_with (first | ((with_reducible refine gate_dst (N := 4) rfl ?_); (try (refine gate_guard (by rfl) ?_; dsimp only)); refine Kd.R_lit Kd.string _ 9 ?hg (N := 4) ?hd (xs := ([(⟨#[100]⟩ : ByteArray), (⟨#[98]⟩ : ByteArray), (⟨#[97]⟩ : ByteArray), (⟨#[99]⟩ : ByteArray)] : List ByteArray)) (inner := [.string (⟨#[100]⟩ : ByteArray), .string (⟨#[98]⟩ : ByteArray), .string (⟨#[97]⟩ : ByteArray), .string (⟨#[99]⟩ : ByteArray)]) (ok := fun _ => True) (okp := fun _ => True) ?hr ?hp (fun _ hk => hk) trivial (Below.refl _ _) (Nat.le_refl _) (by simp) ?_; (case hd => rfl); (case hg => rfl); (case hr => first | (go_simp; done) | (go_simp; rfl)); (case hp => exact (Reps.one (show Kd.M Kd.string _ _ _ (⟨#[100]⟩ : ByteArray) [.string (⟨#[100]⟩ : ByteArray)] from rfl) (Reps.one (show Kd.M Kd.string _ _ _ (⟨#[98]⟩ : ByteArray) [.string (⟨#[98]⟩ : ByteArray)] from rfl) (Reps.one (show Kd.M Kd.string _ _ _ (⟨#[97]⟩ : ByteArray) [.string (⟨#[97]⟩ : ByteArray)] from rfl) (Reps.one (show Kd.M Kd.string _ _ _ (⟨#[99]⟩ : ByteArray) [.string (⟨#[99]⟩ : ByteArray)] from rfl) (Reps.none _ _)))))); intro v197 w48 ho49 hb hg_ hnew_; clear hg_ hnew_; (first | rw [← Ny196.out] at ho49 | (simp only [Int.reduceToNat] at ho49; rw [← Ny196.out] at ho49)); have n0_ := Aside0.mk (Kd.R_lower ho49 (below_size (by repeat (first | (with_reducible first | exact HB.out | apply below_alloc | apply pw_below_drewN | apply below_drew1) | exact HB.out)))); have n1_ := Aside0.mk (below_step (by repeat (first | (with_reducible first | exact HB.out | apply below_alloc | apply pw_below_drewN | apply below_drew1) | exact HB.out)) hb); clear HB; have HO198 := n0_; have HB := n1_; clear n0_ n1_; clear hb ho49; obtain ⟨Ao50, co50, eo50⟩ := Kd.R_slice HO198.out; subst eo50) | ((with_reducible refine gate_callee (f := 15) rfl ?_); refine goesL_ (some 5) rfl rfl Try.func15 (by kernel_rfl) rfl #[.slice Ao50 y196.length co50, .int .i64 4] rfl (by (try simp only [List.map_toArray, List.map_cons, List.map_nil]); first | done | rfl | (simp only [List.length_drop, List.length_take]; rfl)) ?_; (with_reducible refine (parts_Bounds.calls _ _ y196 4 t199 t200 _ ?side1 ?side2 A1.out).mono ?_); (case side1 => repeat (first | exact (Kd.R_reads' HO198.out).2.2 | (with_reducible refine Kd.C_alloc ?_ _) | (with_reducible refine Kd.C_drewN ?_ _) | (with_reducible refine Kd.C_drew ?_))); (case side2 => exact (Kd.R_reads' HO198.out).2.1); rintro e w51 ⟨v201, rfl, ho0, hb⟩; refine ⟨_, rfl, ?_⟩; have n0_ := Aside0.mk (Kd.R_elder' (by (with_reducible repeat (first | apply Kd.R_alloc | apply Kd.R_drewN | apply Kd.R_drew)); exact HO198.out) (Kd.R_base ho0) hb); have n1_ := Aside0.mk (Kd.R_lower (Kd.R_new' ho0 (Kd.R_lt (by (with_reducible repeat (first | apply Kd.R_alloc | apply Kd.R_drewN | apply Kd.R_drew)); exact HO198.out))) (below_size (by repeat (first | (with_reducible first | exact HB.out | apply below_alloc | apply pw_below_drewN | apply below_drew1) | exact HB.out)))); have n2_ := Aside0.mk (below_step (by repeat (first | (with_reducible first | exact HB.out | apply below_alloc | apply pw_below_drewN | apply below_drew1) | exact HB.out)) hb); clear HO198; clear HB; have HO198 := n0_; have HO202 := n1_; have HB := n2_; clear n0_ n1_ n2_; (try clear hb); (try clear hb2); (try clear hk); (try clear hi); (try clear ho0)))
    go_ret
    exact ⟨by first | rfl | (simp [errW_none, errW_some] <;> rfl) | (simp [*, errW_none, errW_some] <;> rfl), by repeat (first | (with_reducible first | exact HB.out | apply below_alloc | apply pw_below_drewN | apply below_drew1) | exact HB.out)⟩

end Go.Proofs.Ytbjlfenappnccaa.P

end
section
/- Three keys parted as they must be; what Bounds answers of a good sample. -/
namespace Go.Proofs.Ytbjlfenappnccaa.P
open Go.RowKit Go.Proofs.YtbjlfenappnccaaW.PrintWords Go.Proofs.YtbjlfenappnccaaW.PrintLast Go.Proofs.Ytbjlfenappnccaa.Hand
set_option linter.unusedVariables false
set_option linter.unusedSimpArgs false

/-- some number of rounds that is enough -/
@[irreducible] def BIG : Nat := 281474976710656
theorem BIG_eq : BIG = 281474976710656 := by unfold BIG; rfl
theorem ba_beq (a b : ByteArray) : (a.toList == b.toList) = decide (a = b) := by
  by_cases h : a = b
  · subst h; simp
  · rw [decide_eq_false h]
    have : a.toList ≠ b.toList := fun e => h (ba_eq e)
    simpa using this
theorem PB_ok {l : List ByteArray} {n : Int} (h : l.length ≤ 65536) (h2 : 1 ≤ n ∧ n ≤ 65535) (hx : ∀ b ∈ l, b.size ≤ 1024) : parts_Bounds.f l n = some (blB (sortB l) n.toNat, 0) := by
  unfold parts_Bounds.f
  rw [bo_ok (by omega) h2 hx]
theorem blB_szs {l : List ByteArray} {n : Nat} (h : l.length ≤ 65536) (hn : n ≤ 65535) (hx : ∀ b ∈ l, b.size ≤ 1024) (h0 : 0 < l.length) : szs (blB (sortB l) n) := by
  refine ⟨by rw [blB_length]; omega, fun b hb => ?_⟩
  obtain ⟨j, hj, rfl⟩ := List.getElem_of_mem hb
  have := hx _ (blB_mem l n j h0 hj)
  omega
theorem szs_small {l : List ByteArray} (h : l.length ≤ 65536) (hx : ∀ b ∈ l, b.size ≤ 1024) : szs l := ⟨by omega, fun b hb => by have := hx b hb; omega⟩
theorem bl4 : blB (sortB [⟨#[100]⟩, ⟨#[98]⟩, ⟨#[97]⟩, ⟨#[99]⟩]) 4 = [⟨#[98]⟩, ⟨#[99]⟩, ⟨#[100]⟩] := by
  rw [sort4]
  rfl
theorem works_eq (k : Nat) (hk : BIG ≤ k) : winnowlaw14_works.f k = some true := by
  unfold BIG at hk
  unfold winnowlaw14_works.f
  have hs : szs [(⟨#[98]⟩ : ByteArray), ⟨#[99]⟩, ⟨#[100]⟩] := by unfold szs; decide
  have c1 : cnt ⟨#[97]⟩ [(⟨#[98]⟩ : ByteArray), ⟨#[99]⟩, ⟨#[100]⟩] = 0 := by simp [cnt, ByteArray.toList_eq, cmpL, Op.bytesLess]
  have c2 : cnt ⟨#[98]⟩ [(⟨#[98]⟩ : ByteArray), ⟨#[99]⟩, ⟨#[100]⟩] = 1 := by simp [cnt, ByteArray.toList_eq, cmpL, Op.bytesLess]
  have c3 : cnt ⟨#[122]⟩ [(⟨#[98]⟩ : ByteArray), ⟨#[99]⟩, ⟨#[100]⟩] = 3 := by simp [cnt, ByteArray.toList_eq, cmpL, Op.bytesLess]
  rw [PB_ok (by decide) (by decide) (by decide), Option.bind_some]
  rw [show ((4 : Int).toNat) = 4 from rfl, bl4]
  rw [if_pos rfl, sameT_eq _ (by decide) k (by simp; omega), Option.bind_some, if_pos rfl, (Range_eq _ _ hs k (by simp; omega)).1, Option.bind_some, c1, if_pos (show ((0 : Nat) : Int) = 0 from rfl), (Range_eq _ _ hs k (by simp; omega)).1, Option.bind_some, c2, if_pos (show ((1 : Nat) : Int) = 1 from rfl), (Range_eq _ _ hs k (by simp; omega)).1, Option.bind_some, c3]
  rfl
end Go.Proofs.Ytbjlfenappnccaa.P

end
section
/- parts.Of: which part a key has in a job; contract by hand (its two ways are closures in a list). -/
namespace Go.Proofs.Ytbjlfenappnccaa.P
open Go.RowKit Go.Proofs.YtbjlfenappnccaaW.PrintWords Go.Proofs.YtbjlfenappnccaaW.PrintLast Go.Proofs.YtbjlfenappnccaaW.PrintMore Go.Proofs.Ytbjlfenappnccaa.Hand
attribute [local go_sem] max2_int min2_int max_two min_two max_three min_three max_four min_four
set_option linter.unusedVariables false
set_option linter.unusedSimpArgs false

section
variable {P : Program} {w : World} {a : Addr} {m : Mode}
theorem run_store_func (f : Fn) (x y : Array Value) : (store a (.func f x y) m).run P w = stored P w a (.func f x y) m := run_store P w a _ m rfl
end
attribute [local go_sem] run_store_func
/-- the job's cells -/
def jcells (a b : Int) (v : Value) (c : Bool) (d e f g h i : Int) : Array Value := #[.int .i64 a, .int .i64 b, v, .bool c, .int .i64 d, .int .i64 e, .int .i64 f, .int .i64 g, .int .i64 h, .int .i64 i]
set_option maxHeartbeats 4000000 in
theorem ByHash (w : World) (a b : Int) (v : Value) (c : Bool) (d e f g h i : Int) (key : ByteArray) (hv : v.oneCell' = true) (hk : key.size ≤ 140737488351232) :
    Calls Try.prog 31 #[.agg #[.int .i64 a, .int .i64 b, v, .bool c, .int .i64 d, .int .i64 e, .int .i64 f, .int .i64 g, .int .i64 h, .int .i64 i], .string key] w fun e w' => e = .returned (.int .i64 (hashI key b)) ∧ Below w.heap.size w w' := by
  have hf := Aside0.mk (show parts_Hash.f key b = some (hashI key b) from if_pos hk)
  go_enter Try.func31, Try.ntmps31
  go_wp2_with fail
  have ba := below_alloc (Below.refl w.heap.size w) (.cells #[.int .i64 a, .int .i64 b, v, .bool c, .int .i64 d, .int .i64 e, .int .i64 f, .int .i64 g, .int .i64 h, .int .i64 i] 28)
  generalize w.alloc (.cells #[.int .i64 a, .int .i64 b, v, .bool c, .int .i64 d, .int .i64 e, .int .i64 f, .int .i64 g, .int .i64 h, .int .i64 i] 28) = W at ba ⊢
  have HBA := Aside0.mk ba
  clear ba
  refine (parts_Hash.calls key b _ _ hf.out).mono ?_
  rintro e w2 ⟨rfl, hB⟩
  have HB := Aside0.mk (below_step HBA.out hB)
  clear hB
  go_wp2_with fail
  go_ret
  exact ⟨rfl, HB.out⟩
set_option maxHeartbeats 4000000 in
theorem BySearch (w : World) (a b : Int) (A : Option Addr) (n cp : Nat) (c : Bool) (d e f g h i : Int) (key : ByteArray) (l : List ByteArray) (m : Nat) (hC : Kd.C Kd.string w A n l) (hn : n = l.length) (hc : n ≤ cp)
    (hl : n ≤ 140737488351232) (hx : ∀ b ∈ l, b.size ≤ 140737488351233) (hm : m ≤ n) (hP : ∀ i, (h : i < l.length) → (i < m ↔ atOr key l[i])) :
    Calls Try.prog 32 #[.agg #[.int .i64 a, .int .i64 b, .slice A n cp, .bool c, .int .i64 d, .int .i64 e, .int .i64 f, .int .i64 g, .int .i64 h, .int .i64 i], .string key] w fun e w' => e = .returned (.int .i64 m) ∧ Below w.heap.size w w' := by
  have HC := Aside0.mk hC
  have HN := Aside0.mk hn
  have Hc := Aside0.mk hc
  have HL := Aside0.mk hl
  have HX := Aside0.mk hx
  have HM := Aside0.mk hm
  have HP := Aside0.mk hP
  clear hC hn hc hl hx hm hP
  go_enter Try.func32, Try.ntmps32
  go_wp2_with fail
  have e1 := heap_alloc_new w (.cells #[.int .i64 a, .int .i64 b, .slice A n cp, .bool c, .int .i64 d, .int .i64 e, .int .i64 f, .int .i64 g, .int .i64 h, .int .i64 i] 28)
  have b1 := below_alloc (Below.refl w.heap.size w) (.cells #[.int .i64 a, .int .i64 b, .slice A n cp, .bool c, .int .i64 d, .int .i64 e, .int .i64 f, .int .i64 g, .int .i64 h, .int .i64 i] 28)
  have s1 : (w.alloc (.cells #[.int .i64 a, .int .i64 b, .slice A n cp, .bool c, .int .i64 d, .int .i64 e, .int .i64 f, .int .i64 g, .int .i64 h, .int .i64 i] 28)).heap.size = w.heap.size + 1 := by simp
  generalize w.alloc (.cells #[.int .i64 a, .int .i64 b, .slice A n cp, .bool c, .int .i64 d, .int .i64 e, .int .i64 f, .int .i64 g, .int .i64 h, .int .i64 i] 28) = W at e1 b1 s1 ⊢
  have e2 := heap_alloc_new W (.cells #[.string key] 9)
  have b2 := below_alloc (Below.refl W.heap.size W) (.cells #[.string key] 9)
  have e3 := (b2.block _ (blk_lt e1)).trans e1
  rw [s1] at e2
  generalize W.alloc (.cells #[.string key] 9) = W2 at e2 b2 e3 ⊢
  have hB := below_step b1 b2
  have G := Aside0.mk (Search W2 w.heap.size (w.heap.size + 1) A cp n m l key ((blk_cell e3 2).trans rfl) ((blk_cell e2 0).trans rfl) (Kd.C_below HC.out hB) HN.out Hc.out HL.out HX.out HM.out HP.out)
  have HB := Aside0.mk hB
  clear e1 e2 e3 b1 b2 s1 hB
  refine G.out.mono ?_
  rintro e w2 ⟨rfl, hB⟩
  have HB2 := Aside0.mk (below_step HB.out hB)
  clear hB
  go_wp2_with fail
  go_ret
  exact ⟨rfl, HB2.out⟩
theorem chk_ok {n : Int} {l : List ByteArray} (h : chk n l = 0) (hl : l.length ≠ 0) : okI l 0 = 0 := by
  unfold chk at h
  by_cases h1 : 1 ≤ n ∧ n ≤ 65535
  · rw [if_pos h1, if_neg hl] at h
    by_cases h2 : (l.length : Int) = n - 1
    · rw [if_pos h2] at h; exact h
    · rw [if_neg h2] at h; cases h
  · rw [if_neg h1] at h; cases h
/-- the job's box and the two ways -/
def OW (w : World) (gj gh : Nat) (a b : Int) (A : Option Addr) (n cp : Nat) (c : Bool) (d e f g h i : Int) (W : World) : Prop :=
  W.heap[gj]? = some (.cells #[.int .i64 a, .int .i64 b, .slice A n cp, .bool c, .int .i64 d, .int .i64 e, .int .i64 f, .int .i64 g, .int .i64 h, .int .i64 i] 28 (0, 0)) ∧ W.heap[gh]? = some (.cells #[.func (.func 31) #[] #[], .func (.func 32) #[] #[]] 52 (0, 0)) ∧ Below w.heap.size w W
theorem OW.cells {w W : World} {gj gh : Nat} {a b : Int} {A : Option Addr} {n cp : Nat} {c : Bool} {d e f g h i : Int} (H : OW w gj gh a b A n cp c d e f g h i W) :
    (W.cell? ⟨gj, 0, none⟩ = some (.int .i64 a) ∧ W.cell? ⟨gj, 1, none⟩ = some (.int .i64 b) ∧ W.cell? ⟨gj, 2, none⟩ = some (.slice A n cp) ∧ W.cell? ⟨gj, 3, none⟩ = some (.bool c) ∧ W.cell? ⟨gj, 4, none⟩ = some (.int .i64 d) ∧ W.cell? ⟨gj, 5, none⟩ = some (.int .i64 e) ∧ W.cell? ⟨gj, 6, none⟩ = some (.int .i64 f) ∧ W.cell? ⟨gj, 7, none⟩ = some (.int .i64 g) ∧ W.cell? ⟨gj, 8, none⟩ = some (.int .i64 h) ∧ W.cell? ⟨gj, 9, none⟩ = some (.int .i64 i)) ∧ W.cell? ⟨gh, 0, none⟩ = some (.func (.func 31) #[] #[]) ∧ W.cell? ⟨gh, 1, none⟩ = some (.func (.func 32) #[] #[]) := by
  obtain ⟨h1, h2, _⟩ := H
  exact ⟨⟨(blk_cell h1 0).trans rfl, (blk_cell h1 1).trans rfl, (blk_cell h1 2).trans rfl, (blk_cell h1 3).trans rfl, (blk_cell h1 4).trans rfl, (blk_cell h1 5).trans rfl, (blk_cell h1 6).trans rfl, (blk_cell h1 7).trans rfl, (blk_cell h1 8).trans rfl, (blk_cell h1 9).trans rfl⟩, (blk_cell h2 0).trans rfl, (blk_cell h2 1).trans rfl⟩
theorem OW.below {w W W2 : World} {gj gh : Nat} {a b : Int} {A : Option Addr} {n cp : Nat} {c : Bool} {d e f g h i : Int} (H : OW w gj gh a b A n cp c d e f g h i W) (hb : Below W.heap.size W W2) : OW w gj gh a b A n cp c d e f g h i W2 :=
  ⟨(hb.block _ (blk_lt H.1)).trans H.1, (hb.block _ (blk_lt H.2.1)).trans H.2.1, below_step H.2.2 hb⟩
theorem OW.make {w w2 : World} {gj : Nat} {a b : Int} {A : Option Addr} {n cp : Nat} {c : Bool} {d e f g h i : Int} (h1 : w2.heap[gj]? = some (.cells #[.int .i64 a, .int .i64 b, .slice A n cp, .bool c, .int .i64 d, .int .i64 e, .int .i64 f, .int .i64 g, .int .i64 h, .int .i64 i] 28 (0, 0))) (hb : Below w.heap.size w w2) :
    OW w gj w2.heap.size a b A n cp c d e f g h i (w2.alloc (.cells #[.func (.func 31) #[] #[], .func (.func 32) #[] #[]] 52)) := by
  have ba := below_alloc (Below.refl w2.heap.size w2) (.cells #[.func (.func 31) #[] #[], .func (.func 32) #[] #[]] 52)
  exact ⟨(ba.block _ (blk_lt h1)).trans h1, heap_alloc_new w2 _, below_step hb ba⟩
/-- what Of answers -/
def ofI (n : Int) (l : List ByteArray) (key : ByteArray) : Int := if chk n l = 0 then (if l.length = 0 then hashI key n else (cnt key l : Int)) else 0
set_option maxHeartbeats 4000000 in
theorem Of_walk (w : World) (a b : Int) (A : Option Addr) (cp : Nat) (l : List ByteArray) (c : Bool) (d e f g h i : Int) (key : ByteArray) (hC : Kd.C Kd.string w A l.length l) (hc : l.length ≤ cp) (hl : szs l) (hk : key.size ≤ 140737488351232) (hb : -9223372036854775808 ≤ b ∧ b ≤ 9223372036854775807) :
    Calls Try.prog 21 #[.agg #[.int .i64 a, .int .i64 b, .slice A l.length cp, .bool c, .int .i64 d, .int .i64 e, .int .i64 f, .int .i64 g, .int .i64 h, .int .i64 i], .string key] w fun e w' => e = .returned (.int .i64 (ofI b l key)) ∧ Below w.heap.size w w' := by
  have HC := Aside0.mk hC
  have Hc := Aside0.mk hc
  have HL := Aside0.mk hl
  have HK := Aside0.mk hk
  have HCK := Aside0.mk (Check_eq l hl a b c d e f g h i hb (l.length + 140737488351311) (by omega)).1
  obtain ⟨n, hn⟩ : ∃ n, n = l.length := ⟨_, rfl⟩
  have HN := Aside0.mk hn
  rw [← hn] at HC Hc ⊢
  clear hC hc hl hk hb hn
  go_enter Try.func21, Try.ntmps21
  go_wp2_with fail
  have e1 := heap_alloc_new w (.cells #[.int .i64 a, .int .i64 b, .slice A n cp, .bool c, .int .i64 d, .int .i64 e, .int .i64 f, .int .i64 g, .int .i64 h, .int .i64 i] 28)
  have b1 := below_alloc (Below.refl w.heap.size w) (.cells #[.int .i64 a, .int .i64 b, .slice A n cp, .bool c, .int .i64 d, .int .i64 e, .int .i64 f, .int .i64 g, .int .i64 h, .int .i64 i] 28)
  generalize w.alloc (.cells #[.int .i64 a, .int .i64 b, .slice A n cp, .bool c, .int .i64 d, .int .i64 e, .int .i64 f, .int .i64 g, .int .i64 h, .int .i64 i] 28) = W at e1 b1 ⊢
  have HE := Aside0.mk e1
  have HB := Aside0.mk b1
  clear e1 b1
  generalize w.heap.size = gj at HE ⊢
  have hck := parts_Check.calls _ a b A cp l c d e f g h i _ W (HN.out ▸ Kd.C_below HC.out HB.out) (HN.out ▸ Hc.out) HCK.out
  rw [← HN.out] at hck
  refine hck.mono ?_
  clear hck
  rintro e' w2 ⟨rfl, hB⟩
  have HB2 := Aside0.mk (below_step HB.out hB)
  have HE2 := Aside0.mk ((hB.block _ (blk_lt HE.out)).trans HE.out)
  clear hB HE
  obtain ⟨ck, hck⟩ : ∃ ck, chk b l = ck := ⟨_, rfl⟩
  have HK2 := Aside0.mk hck
  rw [hck]
  clear hck
  by_cases hz : ck = 0
  · subst hz
    have c0 : w2.cell? ⟨gj, 0, none⟩ = some (.int .i64 a) := (blk_cell HE2.out 0).trans rfl
    have c1 : w2.cell? ⟨gj, 1, none⟩ = some (.int .i64 b) := (blk_cell HE2.out 1).trans rfl
    have c2 : w2.cell? ⟨gj, 2, none⟩ = some (.slice A n cp) := (blk_cell HE2.out 2).trans rfl
    have c3 : w2.cell? ⟨gj, 3, none⟩ = some (.bool c) := (blk_cell HE2.out 3).trans rfl
    have c4 : w2.cell? ⟨gj, 4, none⟩ = some (.int .i64 d) := (blk_cell HE2.out 4).trans rfl
    have c5 : w2.cell? ⟨gj, 5, none⟩ = some (.int .i64 e) := (blk_cell HE2.out 5).trans rfl
    have c6 : w2.cell? ⟨gj, 6, none⟩ = some (.int .i64 f) := (blk_cell HE2.out 6).trans rfl
    have c7 : w2.cell? ⟨gj, 7, none⟩ = some (.int .i64 g) := (blk_cell HE2.out 7).trans rfl
    have c8 : w2.cell? ⟨gj, 8, none⟩ = some (.int .i64 h) := (blk_cell HE2.out 8).trans rfl
    have c9 : w2.cell? ⟨gj, 9, none⟩ = some (.int .i64 i) := (blk_cell HE2.out 9).trans rfl
    have HOW := Aside0.mk (OW.make HE2.out HB2.out)
    obtain ⟨gh, hgh⟩ : ∃ gh, gh = w2.heap.size := ⟨_, rfl⟩
    rw [← hgh] at HOW
    have HGH := Aside0.mk hgh
    clear hgh
    go_wp2_with fail
    rw [← HGH.out]
    generalize w2.alloc (.cells #[.func (.func 31) #[] #[], .func (.func 32) #[] #[]] 52) = W3 at HOW ⊢
    clear c0 c1 c2 c3 c4 c5 c6 c7 c8 c9
    have hM2 := HOW.out.below (below_drew1 (Below.refl _ _))
    have hcs := HOW.out.cells
    by_cases hn0 : n = 0
    · have GK := Aside0.mk (fun (W : World) (_ : Below w.heap.size w W) => ByHash W a b (.slice A 0 cp) c d e f g h i key rfl HK.out)
      have HR := Aside0.mk (show ofI b l key = hashI key b by unfold ofI; rw [HK2.out, if_pos rfl, if_pos (by have := HN.out; omega)])
      subst hn0
      go_region_held3 (fun w' => OW w gj gh a b A 0 cp c d e f g h i w' ∧ ((w'.cell? ⟨gj, 0, none⟩ = some (.int .i64 a) ∧ w'.cell? ⟨gj, 1, none⟩ = some (.int .i64 b) ∧ w'.cell? ⟨gj, 2, none⟩ = some (.slice A 0 cp) ∧ w'.cell? ⟨gj, 3, none⟩ = some (.bool c) ∧ w'.cell? ⟨gj, 4, none⟩ = some (.int .i64 d) ∧ w'.cell? ⟨gj, 5, none⟩ = some (.int .i64 e) ∧ w'.cell? ⟨gj, 6, none⟩ = some (.int .i64 f) ∧ w'.cell? ⟨gj, 7, none⟩ = some (.int .i64 g) ∧ w'.cell? ⟨gj, 8, none⟩ = some (.int .i64 h) ∧ w'.cell? ⟨gj, 9, none⟩ = some (.int .i64 i)) ∧ w'.cell? ⟨gh, 0, none⟩ = some (.func (.func 31) #[] #[]) ∧ w'.cell? ⟨gh, 1, none⟩ = some (.func (.func 32) #[] #[]))) (first | exact ⟨hM2, hM2.cells⟩ | go_keep) ((go_at_call 31; refine (GK.out _ hM2.2.2).mono ?_; rintro e' w4 ⟨rfl, hB⟩; replace hM2 := hM2.below hB))
      have HB4 := Aside0.mk hM2.2.2
      clear hM2 hcs
      go_wp2_with fail
      go_ret
      rw [HR.out]
      exact ⟨rfl, HB4.out⟩
    · by_cases hn1 : n = 1
      · have GK := Aside0.mk (fun (W : World) (hW : Below w.heap.size w W) => BySearch W a b A n cp c d e f g h i key l (cnt key l) (Kd.C_below HC.out hW) HN.out Hc.out (by have := HN.out; have := HL.out.1; omega) HL.out.2 (by rw [HN.out]; exact cnt_le key l) (sorted_split key l (okI_sorted (chk_ok HK2.out (by have := HN.out; omega)))))
        have HR := Aside0.mk (show ofI b l key = (cnt key l : Int) by unfold ofI; rw [HK2.out, if_pos rfl, if_neg (by have := HN.out; omega)])
        subst hn1
        go_region_held3 (fun w' => OW w gj gh a b A 1 cp c d e f g h i w' ∧ ((w'.cell? ⟨gj, 0, none⟩ = some (.int .i64 a) ∧ w'.cell? ⟨gj, 1, none⟩ = some (.int .i64 b) ∧ w'.cell? ⟨gj, 2, none⟩ = some (.slice A 1 cp) ∧ w'.cell? ⟨gj, 3, none⟩ = some (.bool c) ∧ w'.cell? ⟨gj, 4, none⟩ = some (.int .i64 d) ∧ w'.cell? ⟨gj, 5, none⟩ = some (.int .i64 e) ∧ w'.cell? ⟨gj, 6, none⟩ = some (.int .i64 f) ∧ w'.cell? ⟨gj, 7, none⟩ = some (.int .i64 g) ∧ w'.cell? ⟨gj, 8, none⟩ = some (.int .i64 h) ∧ w'.cell? ⟨gj, 9, none⟩ = some (.int .i64 i)) ∧ w'.cell? ⟨gh, 0, none⟩ = some (.func (.func 31) #[] #[]) ∧ w'.cell? ⟨gh, 1, none⟩ = some (.func (.func 32) #[] #[]))) (first | exact ⟨hM2, hM2.cells⟩ | go_keep) ((go_at_call 32; refine (GK.out _ hM2.2.2).mono ?_; rintro e' w4 ⟨rfl, hB⟩; replace hM2 := hM2.below hB))
        have HB4 := Aside0.mk hM2.2.2
        clear hM2 hcs
        go_wp2_with fail
        go_ret
        rw [HR.out]
        exact ⟨rfl, HB4.out⟩
      · have GK := Aside0.mk (fun (W : World) (hW : Below w.heap.size w W) => BySearch W a b A n cp c d e f g h i key l (cnt key l) (Kd.C_below HC.out hW) HN.out Hc.out (by have := HN.out; have := HL.out.1; omega) HL.out.2 (by rw [HN.out]; exact cnt_le key l) (sorted_split key l (okI_sorted (chk_ok HK2.out (by have := HN.out; omega)))))
        have HR := Aside0.mk (show ofI b l key = (cnt key l : Int) by unfold ofI; rw [HK2.out, if_pos rfl, if_neg (by have := HN.out; omega)])
        have d1 : ((1 : Int) < (n : Int)) = True := eq_true (by omega)
        have d2 : (1 < n) = True := eq_true (by omega)
        go_region_held3 (fun w' => OW w gj gh a b A n cp c d e f g h i w' ∧ ((w'.cell? ⟨gj, 0, none⟩ = some (.int .i64 a) ∧ w'.cell? ⟨gj, 1, none⟩ = some (.int .i64 b) ∧ w'.cell? ⟨gj, 2, none⟩ = some (.slice A n cp) ∧ w'.cell? ⟨gj, 3, none⟩ = some (.bool c) ∧ w'.cell? ⟨gj, 4, none⟩ = some (.int .i64 d) ∧ w'.cell? ⟨gj, 5, none⟩ = some (.int .i64 e) ∧ w'.cell? ⟨gj, 6, none⟩ = some (.int .i64 f) ∧ w'.cell? ⟨gj, 7, none⟩ = some (.int .i64 g) ∧ w'.cell? ⟨gj, 8, none⟩ = some (.int .i64 h) ∧ w'.cell? ⟨gj, 9, none⟩ = some (.int .i64 i)) ∧ w'.cell? ⟨gh, 0, none⟩ = some (.func (.func 31) #[] #[]) ∧ w'.cell? ⟨gh, 1, none⟩ = some (.func (.func 32) #[] #[]))) (first | exact ⟨hM2, hM2.cells⟩ | go_keep) ((go_at_call 32; refine (GK.out _ hM2.2.2).mono ?_; rintro e' w4 ⟨rfl, hB⟩; replace hM2 := hM2.below hB))
        have HB4 := Aside0.mk hM2.2.2
        clear hM2 hcs
        go_wp2_with fail
        go_ret
        rw [HR.out]
        exact ⟨rfl, HB4.out⟩
  · have hd : (ck != 0) = true := by simpa using hz
    have HR := Aside0.mk (show ofI b l key = 0 by unfold ofI; rw [HK2.out, if_neg hz])
    clear hz
    go_wp2_with fail
    go_ret
    rw [HR.out]
    exact ⟨rfl, HB2.out⟩
end Go.Proofs.Ytbjlfenappnccaa.P
namespace Go.Proofs.Ytbjlfenappnccaa.Hand
open Go.RowKit Go.Proofs.YtbjlfenappnccaaW.PrintWords Go.Proofs.YtbjlfenappnccaaW.PrintLast Go.Proofs.Ytbjlfenappnccaa.P
set_option linter.unusedVariables false
def parts_Of.f (a0_0 a0_1 : Int) (l0_2 : List ByteArray) (a0_3 : Bool) (a0_4 a0_5 a0_6 a0_7 a0_8 a0_9 : Int) (a1 : ByteArray) : Option Int :=
  if szs l0_2 ∧ a1.size ≤ 140737488351232 ∧ (-9223372036854775808 ≤ a0_1 ∧ a0_1 ≤ 9223372036854775807) then some (ofI a0_1 l0_2 a1) else none
theorem parts_Of.calls (a0_0 a0_1 : Int) (A0_2 : Option Addr) (c0_2 : Nat) (l0_2 : List ByteArray) (a0_3 : Bool) (a0_4 a0_5 a0_6 a0_7 a0_8 a0_9 : Int) (a1 : ByteArray) (r : Int) (w : World) (hr0_2 : Kd.C Kd.string w A0_2 l0_2.length l0_2) (hc0_2 : l0_2.length ≤ c0_2) (h : parts_Of.f a0_0 a0_1 l0_2 a0_3 a0_4 a0_5 a0_6 a0_7 a0_8 a0_9 a1 = some r) :
    Calls Try.prog 21 #[.agg #[.int .i64 a0_0, .int .i64 a0_1, .slice A0_2 l0_2.length c0_2, .bool a0_3, .int .i64 a0_4, .int .i64 a0_5, .int .i64 a0_6, .int .i64 a0_7, .int .i64 a0_8, .int .i64 a0_9], .string a1] w fun e w' => e = .returned (.int .i64 r) ∧ Below w.heap.size w w' := by
  unfold parts_Of.f at h
  by_cases hc : szs l0_2 ∧ a1.size ≤ 140737488351232 ∧ (-9223372036854775808 ≤ a0_1 ∧ a0_1 ≤ 9223372036854775807)
  · rw [if_pos hc] at h
    injection h with h
    subst h
    exact Of_walk w a0_0 a0_1 A0_2 c0_2 l0_2 a0_3 a0_4 a0_5 a0_6 a0_7 a0_8 a0_9 a1 hr0_2 hc0_2 hc.1 hc.2.1 hc.2.2
  · rw [if_neg hc] at h
    cases h
end Go.Proofs.Ytbjlfenappnccaa.Hand

end
