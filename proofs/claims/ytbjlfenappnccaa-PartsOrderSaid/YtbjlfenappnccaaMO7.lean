/- Several texts laid together (wip/tools/merge2.py): OrderPlain, HPOrder. -/
import Derived.Test.YtbjlfenappnccaaMO6
import Derived.Outline
section
/- PartsOrder in plain words: parts rise with keys. -/
namespace Go.Proofs.Ytbjlfenappnccaa.P
open Go.RowKit Go.Proofs.YtbjlfenappnccaaW.PrintWords Go.Proofs.YtbjlfenappnccaaW.PrintLast Go.Proofs.Ytbjlfenappnccaa.Hand
set_option linter.unusedVariables false

theorem cnt_mono (k1 k2 : ByteArray) (h : cmpL k1.toList k2.toList ≤ 0) : ∀ l : List ByteArray, cnt k1 l ≤ cnt k2 l := by
  intro l
  induction l with
  | nil => exact Nat.le_refl _
  | cons b l ih =>
    rw [cnt_cons, cnt_cons]
    by_cases h1 : cmpL b.toList k1.toList ≤ 0
    · rw [if_pos h1, if_pos (cmpL_trans h1 h)]; omega
    · rw [if_neg h1]; split <;> omega
theorem hashI_range (key : ByteArray) (n : Int) (hn : 1 ≤ n ∧ n ≤ 65535) : 0 ≤ hashI key n ∧ hashI key n < n := by
  unfold hashI
  rw [if_pos hn]
  exact ⟨Int.emod_nonneg _ (by omega), Int.emod_lt_of_pos _ (by omega)⟩
theorem blB_size (l : List ByteArray) (n : Nat) (hx : ∀ b ∈ l, b.size ≤ 1024) (b : ByteArray) (hb : b ∈ blB (sortB l) n) : b.size ≤ 1024 := by
  obtain ⟨j, hj, rfl⟩ := List.getElem_of_mem hb
  rcases Nat.eq_zero_or_pos l.length with h0 | h0
  · rw [blB_get, show atB (sortB l) n j = ByteArray.empty from if_pos (by rw [sortB_length]; exact h0)]
    decide
  · exact hx _ (blB_mem l n j h0 hj)
theorem okI_bl (l : List ByteArray) (n : Nat) (hx : ∀ b ∈ l, b.size ≤ 1024) : okI (blB (sortB l) n) 0 = 0 := by
  refine if_pos ((okI_all _ 0).2 (fun j _ h => ⟨blB_size l n hx _ (List.getElem_mem h), fun i hi => ?_⟩))
  have h1 := (leB_iff _ _).1 (blB_le l n i j (by omega) h)
  rcases Int.lt_or_le (cmpL (blB (sortB l) n)[j].toList ((blB (sortB l) n)[i]'(by omega)).toList) 0 with h2 | h2
  · exact absurd h1 ((cmpL_swap _ _).1 h2)
  · exact h2
/-- what the walk needs of the bounds and of the parts -/
theorem order_facts (l : List ByteArray) (n : Int) (hn : 1 ≤ n ∧ n ≤ 65535) (hx : ∀ b ∈ l, b.size ≤ 1024) :
    szs (blB (sortB l) n.toNat) ∧ chk n (blB (sortB l) n.toNat) = 0 ∧ chk n [] = 0 ∧ (∀ key, 0 ≤ ofI n (blB (sortB l) n.toNat) key ∧ ofI n (blB (sortB l) n.toNat) key < n) ∧ (∀ key, ofI n [] key = hashI key n) ∧
      (∀ k1 k2 : ByteArray, cmpL k1.toList k2.toList ≤ 0 → ofI n (blB (sortB l) n.toNat) k1 ≤ ofI n (blB (sortB l) n.toNat) k2) := by
  have hl := blB_length (sortB l) n.toNat
  have hc : chk n (blB (sortB l) n.toNat) = 0 := by
    unfold chk
    rw [if_pos hn]
    split
    · rfl
    · rw [if_pos (by omega)]; exact okI_bl l n.toNat hx
  have hc0 : chk n [] = 0 := by unfold chk; rw [if_pos hn]; exact if_pos rfl
  refine ⟨⟨by omega, fun b hb => by have := blB_size l n.toNat hx b hb; omega⟩, hc, hc0, fun key => ?_, fun key => ?_, fun k1 k2 h => ?_⟩
  · unfold ofI
    rw [if_pos hc]
    split
    · exact hashI_range key n hn
    · have := cnt_le key (blB (sortB l) n.toNat)
      omega
  · unfold ofI
    rw [if_pos hc0]; exact if_pos rfl
  · unfold ofI
    rw [if_pos hc, if_pos hc]
    split
    · have h1 := hashI_range k1 n hn
      have h2 := hashI_range k2 n hn
      omega
    · have := cnt_mono k1 k2 h (blB (sortB l) n.toNat)
      omega
theorem cmpL_cases (a b : List UInt8) : cmpL a b = -1 ∨ cmpL a b = 0 ∨ cmpL a b = 1 := by
  unfold cmpL
  split
  · exact .inl rfl
  · split
    · exact .inr (.inr rfl)
    · exact .inr (.inl rfl)
end Go.Proofs.Ytbjlfenappnccaa.P

end
section
/- The walk of the law on parts' order (printed by HPOrder.gen.py). -/
namespace Go.Proofs.Ytbjlfenappnccaa.P
open Go.RowKit Go.Proofs.YtbjlfenappnccaaW.PrintWords Go.Proofs.YtbjlfenappnccaaW.PrintLast Go.Proofs.YtbjlfenappnccaaW.PrintMore Go.Proofs.Ytbjlfenappnccaa.Hand
set_option linter.unusedVariables false
set_option linter.unusedSimpArgs false

/-- both jobs' boxes, the bounds, the keys -/
def JB (w0 W : World) (gj gh : Nat) (n : Int) (A : Option Addr) (m cp : Nat) (b : List ByteArray) (A2 : Option Addr) (ks : List ByteArray) : Prop :=
  W.heap[gj]? = some (.cells #[.int .i64 0, .int .i64 n, .slice A m cp, .bool false, .int .i64 0, .int .i64 0, .int .i64 0, .int .i64 0, .int .i64 0, .int .i64 0] 28 (0, 0)) ∧ W.heap[gh]? = some (.cells #[.int .i64 0, .int .i64 n, .slice none 0 0, .bool false, .int .i64 0, .int .i64 0, .int .i64 0, .int .i64 0, .int .i64 0, .int .i64 0] 28 (0, 0)) ∧ Below w0.heap.size w0 W ∧ Kd.R Kd.string 9 W w0.heap.size (fun _ => True) (.slice A m cp) b ∧ Kd.C Kd.string W A2 ks.length ks
section
variable {w0 W W' : World} {gj gh : Nat} {n : Int} {A : Option Addr} {m cp : Nat} {b : List ByteArray} {A2 : Option Addr} {ks : List ByteArray}
theorem JB.below (h : JB w0 W gj gh n A m cp b A2 ks) (hb : Below W.heap.size W W') : JB w0 W' gj gh n A m cp b A2 ks :=
  ⟨(hb.block _ (blk_lt h.1)).trans h.1, (hb.block _ (blk_lt h.2.1)).trans h.2.1, below_step h.2.2.1 hb, Kd.R_below h.2.2.2.1 hb, Kd.C_below h.2.2.2.2 hb⟩
theorem JB.cj (h : JB w0 W gj gh n A m cp b A2 ks) : W.cell? ⟨gj, 0, none⟩ = some (.int .i64 0) ∧ W.cell? ⟨gj, 1, none⟩ = some (.int .i64 n) ∧ W.cell? ⟨gj, 2, none⟩ = some (.slice A m cp) ∧ W.cell? ⟨gj, 3, none⟩ = some (.bool false) ∧ W.cell? ⟨gj, 4, none⟩ = some (.int .i64 0) ∧ W.cell? ⟨gj, 5, none⟩ = some (.int .i64 0) ∧ W.cell? ⟨gj, 6, none⟩ = some (.int .i64 0) ∧ W.cell? ⟨gj, 7, none⟩ = some (.int .i64 0) ∧ W.cell? ⟨gj, 8, none⟩ = some (.int .i64 0) ∧ W.cell? ⟨gj, 9, none⟩ = some (.int .i64 0) :=
  ⟨(blk_cell h.1 0).trans rfl, (blk_cell h.1 1).trans rfl, (blk_cell h.1 2).trans rfl, (blk_cell h.1 3).trans rfl, (blk_cell h.1 4).trans rfl, (blk_cell h.1 5).trans rfl, (blk_cell h.1 6).trans rfl, (blk_cell h.1 7).trans rfl, (blk_cell h.1 8).trans rfl, (blk_cell h.1 9).trans rfl⟩
theorem JB.ch (h : JB w0 W gj gh n A m cp b A2 ks) : W.cell? ⟨gh, 0, none⟩ = some (.int .i64 0) ∧ W.cell? ⟨gh, 1, none⟩ = some (.int .i64 n) ∧ W.cell? ⟨gh, 2, none⟩ = some (.slice none 0 0) ∧ W.cell? ⟨gh, 3, none⟩ = some (.bool false) ∧ W.cell? ⟨gh, 4, none⟩ = some (.int .i64 0) ∧ W.cell? ⟨gh, 5, none⟩ = some (.int .i64 0) ∧ W.cell? ⟨gh, 6, none⟩ = some (.int .i64 0) ∧ W.cell? ⟨gh, 7, none⟩ = some (.int .i64 0) ∧ W.cell? ⟨gh, 8, none⟩ = some (.int .i64 0) ∧ W.cell? ⟨gh, 9, none⟩ = some (.int .i64 0) :=
  ⟨(blk_cell h.2.1 0).trans rfl, (blk_cell h.2.1 1).trans rfl, (blk_cell h.2.1 2).trans rfl, (blk_cell h.2.1 3).trans rfl, (blk_cell h.2.1 4).trans rfl, (blk_cell h.2.1 5).trans rfl, (blk_cell h.2.1 6).trans rfl, (blk_cell h.2.1 7).trans rfl, (blk_cell h.2.1 8).trans rfl, (blk_cell h.2.1 9).trans rfl⟩
theorem JB.key {ad : Addr} (h : JB w0 W gj gh n A m cp b (some ad) ks) (i : Nat) (hi : i < ks.length) : W.cell? (ad.add i) = some (.string ks[i]) := by
  obtain ⟨ad', e, hx⟩ := Kd.at_string h.2.2.2.2 (i : Int) (Int.natCast_nonneg i) (Int.ofNat_lt.2 hi)
  injection e with e
  subst e
  rw [rdb_nat ks i hi, Int.toNat_natCast] at hx
  exact hx
theorem JB.addr (h : JB w0 W gj gh n A m cp b A2 ks) (hi : 0 < ks.length) : ∃ ad, A2 = some ad := by
  obtain ⟨ad', e, hx⟩ := Kd.at_string h.2.2.2.2 (0 : Int) (by omega) (by omega)
  exact ⟨ad', e⟩
end

set_option maxHeartbeats 8000000 in
set_option maxRecDepth 100000 in
theorem POrder_walk (A0 : Option Addr) (c0 : Nat) (l : List ByteArray) (n : Int) (A2 : Option Addr) (c2 : Nat) (ks : List ByteArray) (w : World) (hr0 : Kd.C Kd.string w A0 l.length l) (hc0 : l.length ≤ c0) (hr2 : Kd.C Kd.string w A2 ks.length ks) (hc2 : ks.length ≤ c2) (hks : ks.length ≤ 140737488351232 ∧ ∀ x ∈ ks, x.size ≤ 140737488351232) (hnn : -9223372036854775808 ≤ n ∧ n ≤ 9223372036854775807) :
    Calls Try.prog 7 #[.slice A0 l.length c0, .int .i64 n, .slice A2 ks.length c2] w fun e w' => e = .returned (.bool true) ∧ Below w.heap.size w w' := by
  obtain ⟨b, hb⟩ : ∃ b, b = (boundsOf l n).1 := ⟨_, rfl⟩
  obtain ⟨E, hE⟩ : ∃ E, E = (boundsOf l n).2 := ⟨_, rfl⟩
  have HR2 := Aside0.mk hr2
  have HC2 := Aside0.mk hc2
  have HKS := Aside0.mk hks
  have HPB := Aside0.mk (parts_Bounds.calls A0 c0 l n b E w hr0 hc0 (by rw [hb, hE]; rfl))
  have HCASE : Aside0 ((E ≠ 0 ∧ b = []) ∨ (E = 0 ∧ (1 ≤ n ∧ n ≤ 65535) ∧ ∃ hx : ∀ x ∈ l, x.size ≤ 1024, b = blB (sortB l) n.toNat)) := ⟨by
    rw [hb, hE]
    unfold boundsOf
    split
    · exact .inl ⟨by decide, rfl⟩
    · split
      · rename_i h2
        split
        · rename_i h3; exact .inr ⟨rfl, h2, h3, rfl⟩
        · exact .inl ⟨by decide, rfl⟩
      · exact .inl ⟨by decide, rfl⟩⟩
  clear hr0 hc0 hr2 hc2 hks hb hE
  go_enter Try.func7, Try.ntmps7
  go_wp2_with fail
  refine HPB.out.mono ?_
  rintro e' w1 ⟨Vb, rfl, hB, hB1⟩
  obtain ⟨A, cp, rfl, hcp, _⟩ := Kd.R_reads hB
  have HB1 := Aside0.mk hB1
  have HB := Aside0.mk hB
  have HCP := Aside0.mk hcp
  clear HPB hB hB1 hcp
  rcases HCASE.out with ⟨h1, h2⟩ | ⟨h1, h2, h3, h4⟩
  · subst h2
    have d1 : (E == 0) = false := by simpa using h1
    have d1' : (E != 0) = true := by simpa using h1
    have d2 : decide (E = 0) = false := by simpa using h1
    have HW := Aside0.mk (fun (W : World) => winnowlaw14_works.calls BIG true W (works_eq BIG (Nat.le_refl _)))
    clear h1 HCASE
    go_wp2_with fail
    refine (HW.out _).mono ?_
    rintro e' w2 ⟨rfl, hB2⟩
    have HB2 := Aside0.mk (below_step HB1.out hB2)
    clear hB2
    go_wp2_with fail
    go_ret
    exact ⟨by first | rfl | (simp; done), HB2.out⟩
  · subst h1
    obtain ⟨f1, f2, f3, f4, f5, f6⟩ := order_facts l n h2 h3
    rw [← h4] at f1 f2 f4 f6
    have hbl := blB_length (sortB l) n.toNat
    rw [← h4] at hbl
    obtain ⟨m, hm⟩ : ∃ m, m = b.length := ⟨_, rfl⟩
    have HM := Aside0.mk hm
    have hw1 : wrap64 (n - 1) = (m : Int) := by unfold wrap64; omega
    have hw2 : IntKind.i64.wrap (n - 1) = (m : Int) := (i64_w _).trans hw1
    have F1 := Aside0.mk f1
    have F2 := Aside0.mk f2
    have F3 := Aside0.mk f3
    have F4 := Aside0.mk f4
    have F5 := Aside0.mk f5
    have F6 := Aside0.mk f6
    have HN := Aside0.mk h2
    have HCP2 := Aside0.mk (show m ≤ cp by have := HCP.out; omega)
    rw [← hm] at HB ⊢
    clear f1 f2 f3 f4 f5 f6 h2 h3 h4 hbl hm HCASE HCP
    go_upto_region 6 with fail
    obtain ⟨gj, hgj⟩ : ∃ gj, gj = w1.heap.size := ⟨_, rfl⟩
    obtain ⟨gh, hgh⟩ : ∃ gh, gh = (w1.alloc (.cells #[.int .i64 0, .int .i64 n, .slice A m cp, .bool false, .int .i64 0, .int .i64 0, .int .i64 0, .int .i64 0, .int .i64 0, .int .i64 0] 28)).heap.size := ⟨_, rfl⟩
    have hJB : JB w ((w1.alloc (.cells #[.int .i64 0, .int .i64 n, .slice A m cp, .bool false, .int .i64 0, .int .i64 0, .int .i64 0, .int .i64 0, .int .i64 0, .int .i64 0] 28)).alloc (.cells #[.int .i64 0, .int .i64 n, .slice none 0 0, .bool false, .int .i64 0, .int .i64 0, .int .i64 0, .int .i64 0, .int .i64 0, .int .i64 0] 28)) gj gh n A m cp b A2 ks := by
      refine ⟨?_, ?_, ?_, ?_, ?_⟩
      · rw [hgj]; exact ((below_alloc (Below.refl _ (w1.alloc (.cells #[.int .i64 0, .int .i64 n, .slice A m cp, .bool false, .int .i64 0, .int .i64 0, .int .i64 0, .int .i64 0, .int .i64 0, .int .i64 0] 28))) (.cells #[.int .i64 0, .int .i64 n, .slice none 0 0, .bool false, .int .i64 0, .int .i64 0, .int .i64 0, .int .i64 0, .int .i64 0, .int .i64 0] 28)).block _ (by simp)).trans (heap_alloc_new w1 _)
      · rw [hgh]; exact heap_alloc_new _ _
      · exact below_alloc (below_alloc HB1.out _) _
      · exact Kd.R_alloc (Kd.R_alloc HB.out _) _
      · exact Kd.C_alloc (Kd.C_alloc (Kd.C_below HR2.out HB1.out) _) _
    have hsz : w1.heap.size + 1 = (w1.alloc (.cells #[.int .i64 0, .int .i64 n, .slice A m cp, .bool false, .int .i64 0, .int .i64 0, .int .i64 0, .int .i64 0, .int .i64 0, .int .i64 0] 28)).heap.size := by simp
    (try rw [hsz])
    rw [← hgh, ← hgj]
    generalize (w1.alloc (.cells #[.int .i64 0, .int .i64 n, .slice A m cp, .bool false, .int .i64 0, .int .i64 0, .int .i64 0, .int .i64 0, .int .i64 0, .int .i64 0] 28)).alloc (.cells #[.int .i64 0, .int .i64 n, .slice none 0 0, .bool false, .int .i64 0, .int .i64 0, .int .i64 0, .int .i64 0, .int .i64 0, .int .i64 0] 28) = W at hJB ⊢
    have HJ := Aside0.mk hJB
    clear hJB hsz hgj hgh HB HB1 HR2
    have HC1 := Aside0.mk (fun (V : World) (h : JB w V gj gh n A m cp b A2 ks) => (by have q := parts_Check.calls (b.length + 140737488351320) 0 n A cp b false 0 0 0 0 0 0 0 V (by have := h.2.2.2.1; rw [HM.out] at this; exact (Kd.R_reads' this).2.2) (by have := HM.out; have := HCP2.out; omega) (by rw [(Check_eq b F1.out 0 n false 0 0 0 0 0 0 (by have := HN.out; omega) _ (by omega)).1, F2.out]); rw [← HM.out] at q; exact q : Calls Try.prog 20 #[.agg #[.int .i64 0, .int .i64 n, .slice A m cp, .bool false, .int .i64 0, .int .i64 0, .int .i64 0, .int .i64 0, .int .i64 0, .int .i64 0]] V fun e w' => e = .returned (.int .i64 0) ∧ Below V.heap.size V w'))
    have HCH := Aside0.mk (fun (V : World) => (parts_Check.calls (140737488351320) 0 n none 0 [] false 0 0 0 0 0 0 0 V (Kd.C_nil _ _) (Nat.le_refl _) (by rw [(Check_eq [] ⟨by decide, by simp⟩ 0 n false 0 0 0 0 0 0 (by have := HN.out; omega) _ (by rw [List.length_nil]; omega)).1, F3.out]) : Calls Try.prog 20 #[.agg #[.int .i64 0, .int .i64 n, .slice none 0 0, .bool false, .int .i64 0, .int .i64 0, .int .i64 0, .int .i64 0, .int .i64 0, .int .i64 0]] V fun e w' => e = .returned (.int .i64 0) ∧ Below V.heap.size V w'))
    obtain ⟨j0, j1, j2, j3, j4, j5, j6, j7, j8, j9⟩ := HJ.out.cj
    go_wp2_with fail
    clear j0 j1 j2 j3 j4 j5 j6 j7 j8 j9
    refine (HC1.out _ HJ.out).mono ?_
    rintro e' w2 ⟨rfl, hB2⟩
    have HJ2 := Aside0.mk (HJ.out.below hB2)
    clear hB2 HJ HC1
    obtain ⟨k0, k1, k2, k3, k4, k5, k6, k7, k8, k9⟩ := HJ2.out.ch
    go_wp2_with fail
    clear k0 k1 k2 k3 k4 k5 k6 k7 k8 k9
    refine (HCH.out _).mono ?_
    rintro e' w3 ⟨rfl, hB3⟩
    have HJ3 := Aside0.mk (HJ2.out.below hB3)
    clear hB3 HJ2 HCH
    go_wp2_with fail
    go_loopw [11] (fun v0 wr => ∃ i : Nat, v0 = .int .i64 i ∧ i ≤ ks.length ∧ i ≤ 40 ∧ Aside0 (JB w wr gj gh n A m cp b A2 ks)) (fun v0 _ => 40 - (intOf v0).toNat)
    case atStart => exact ⟨0, rfl, Nat.zero_le _, Nat.zero_le _, HJ3⟩
    case round =>
      clear HJ3
      obtain ⟨i, rfl, hi, hi4, HJ⟩ := hrel
      by_cases hlt : i < ks.length
      · by_cases hl4 : i < 40
        · have q1 : (i : Int) < (ks.length : Int) := Int.ofNat_lt.2 hlt
          have p1 : (0 : Int) ≤ (i : Int) := Int.natCast_nonneg i
          have d1 : decide ((i : Int) < (ks.length : Int)) = true := decide_eq_true q1
          have d2 : decide (i < ks.length) = true := decide_eq_true hlt
          have d3 : decide ((i : Int) < 40) = true := decide_eq_true (by omega)
          have d4 : decide (i < 40) = true := decide_eq_true hl4
          have hw4 : wrap64 ((i : Int) + 1) = ((i + 1 : Nat) : Int) := wrap_succB i (by omega)
          obtain ⟨ad, rfl⟩ := HJ.out.addr (by omega)
          have HKEY := Aside0.mk (fun (V : World) (h : JB w V gj gh n A m cp b (some ad) ks) => h.key i hlt)
          have HXS := Aside0.mk (HKS.out.2 _ (List.getElem_mem hlt))
          obtain ⟨kk, hkk⟩ : ∃ kk, kk = ks[i] := ⟨_, rfl⟩
          rw [← hkk] at HKEY HXS
          have HKK := Aside0.mk hkk
          clear hkk
          obtain ⟨pp, hpp⟩ : ∃ pp, pp = ofI n b kk := ⟨_, rfl⟩
          obtain ⟨qq, hqq⟩ : ∃ qq, qq = hashI kk n := ⟨_, rfl⟩
          have HPP := Aside0.mk hpp
          have HO1 := Aside0.mk (fun (V : World) (h : JB w V gj gh n A m cp b (some ad) ks) => (by have q := parts_Of.calls 0 n A cp b false 0 0 0 0 0 0 kk pp V (by have := h.2.2.2.1; rw [HM.out] at this; exact (Kd.R_reads' this).2.2) (by have := HM.out; have := HCP2.out; omega) (by unfold parts_Of.f; rw [if_pos ⟨F1.out, HXS.out, by have := HN.out; omega⟩, hpp]); rw [← HM.out] at q; exact q : Calls Try.prog 21 #[.agg #[.int .i64 0, .int .i64 n, .slice A m cp, .bool false, .int .i64 0, .int .i64 0, .int .i64 0, .int .i64 0, .int .i64 0, .int .i64 0], .string kk] V fun e w' => e = .returned (.int .i64 pp) ∧ Below V.heap.size V w'))
          have HO2 := Aside0.mk (fun (V : World) => (parts_Of.calls 0 n none 0 [] false 0 0 0 0 0 0 kk qq V (Kd.C_nil _ _) (Nat.le_refl _) (by unfold parts_Of.f; rw [if_pos ⟨⟨by decide, by simp⟩, HXS.out, by have := HN.out; omega⟩, F5.out, hqq]) : Calls Try.prog 21 #[.agg #[.int .i64 0, .int .i64 n, .slice none 0 0, .bool false, .int .i64 0, .int .i64 0, .int .i64 0, .int .i64 0, .int .i64 0, .int .i64 0], .string kk] V fun e w' => e = .returned (.int .i64 qq) ∧ Below V.heap.size V w'))
          have HO3 := Aside0.mk (fun (V : World) => (parts_Hash.calls kk n qq V (by unfold parts_Hash.f; rw [if_pos HXS.out, hqq]) : Calls Try.prog 8 #[.string kk, .int .i64 n] V fun e w' => e = .returned (.int .i64 qq) ∧ Below V.heap.size V w'))
          have hpr := F4.out kk
          rw [← hpp] at hpr
          have hqr := hashI_range kk n HN.out
          rw [← hqq] at hqr
          have e1 : decide (pp < 0) = false := decide_eq_false (by omega)
          have e2 : decide (pp ≥ n) = false := decide_eq_false (by omega)
          have e2' : decide (n ≤ pp) = false := decide_eq_false (by omega)
          have e3 : decide (qq < 0) = false := decide_eq_false (by omega)
          have e4 : decide (qq ≥ n) = false := decide_eq_false (by omega)
          have e4' : decide (n ≤ qq) = false := decide_eq_false (by omega)
          clear hpp hqq hpr hqr
          replace p1 := eq_true p1
          replace q1 := eq_true q1
          go_wp2_with fail
          have hM2 := HJ.out.below (below_drew1 (Below.refl _ _))
          have hcs := HJ.out.cj
          have hky := HKEY.out _ HJ.out
          go_region_held3 (fun w' => JB w w' gj gh n A m cp b (some ad) ks ∧ ((w'.cell? ⟨gj, 0, none⟩ = some (.int .i64 0) ∧ w'.cell? ⟨gj, 1, none⟩ = some (.int .i64 n) ∧ w'.cell? ⟨gj, 2, none⟩ = some (.slice A m cp) ∧ w'.cell? ⟨gj, 3, none⟩ = some (.bool false) ∧ w'.cell? ⟨gj, 4, none⟩ = some (.int .i64 0) ∧ w'.cell? ⟨gj, 5, none⟩ = some (.int .i64 0) ∧ w'.cell? ⟨gj, 6, none⟩ = some (.int .i64 0) ∧ w'.cell? ⟨gj, 7, none⟩ = some (.int .i64 0) ∧ w'.cell? ⟨gj, 8, none⟩ = some (.int .i64 0) ∧ w'.cell? ⟨gj, 9, none⟩ = some (.int .i64 0)) ∧ (w'.cell? (ad.add i) = some (.string kk)))) (first | exact ⟨hM2, hM2.cj, HKEY.out _ hM2⟩ | go_keep) ((go_at_call 21; refine (HO1.out _ hM2).mono ?_; rintro e' w4 ⟨rfl, hB⟩; replace hM2 := hM2.below hB))
          clear hcs hky HJ
          have HJ := Aside0.mk hM2
          clear hM2
          go_wp2_with fail
          have hM2 := HJ.out.below (below_drew1 (Below.refl _ _))
          have hcs := HJ.out.ch
          have hky := HKEY.out _ HJ.out
          go_region_held3 (fun w' => JB w w' gj gh n A m cp b (some ad) ks ∧ ((w'.cell? ⟨gh, 0, none⟩ = some (.int .i64 0) ∧ w'.cell? ⟨gh, 1, none⟩ = some (.int .i64 n) ∧ w'.cell? ⟨gh, 2, none⟩ = some (.slice none 0 0) ∧ w'.cell? ⟨gh, 3, none⟩ = some (.bool false) ∧ w'.cell? ⟨gh, 4, none⟩ = some (.int .i64 0) ∧ w'.cell? ⟨gh, 5, none⟩ = some (.int .i64 0) ∧ w'.cell? ⟨gh, 6, none⟩ = some (.int .i64 0) ∧ w'.cell? ⟨gh, 7, none⟩ = some (.int .i64 0) ∧ w'.cell? ⟨gh, 8, none⟩ = some (.int .i64 0) ∧ w'.cell? ⟨gh, 9, none⟩ = some (.int .i64 0)) ∧ (w'.cell? (ad.add i) = some (.string kk)))) (first | exact ⟨hM2, hM2.ch, HKEY.out _ hM2⟩ | go_keep) ((go_at_call 21; refine (HO2.out _).mono ?_; rintro e' w4 ⟨rfl, hB⟩; replace hM2 := hM2.below hB))
          clear hcs hky HJ
          have HJ := Aside0.mk hM2
          clear hM2
          go_wp2_with fail
          have hM2 := HJ.out.below (below_drew1 (Below.refl _ _))
          have hcs := HJ.out.cj
          have hky := HKEY.out _ HJ.out
          have e5 : (pp != pp) = false := by simp
          have e6 : (qq != qq) = false := by simp
          go_region_held3 (fun w' => JB w w' gj gh n A m cp b (some ad) ks ∧ ((w'.cell? ⟨gj, 0, none⟩ = some (.int .i64 0) ∧ w'.cell? ⟨gj, 1, none⟩ = some (.int .i64 n) ∧ w'.cell? ⟨gj, 2, none⟩ = some (.slice A m cp) ∧ w'.cell? ⟨gj, 3, none⟩ = some (.bool false) ∧ w'.cell? ⟨gj, 4, none⟩ = some (.int .i64 0) ∧ w'.cell? ⟨gj, 5, none⟩ = some (.int .i64 0) ∧ w'.cell? ⟨gj, 6, none⟩ = some (.int .i64 0) ∧ w'.cell? ⟨gj, 7, none⟩ = some (.int .i64 0) ∧ w'.cell? ⟨gj, 8, none⟩ = some (.int .i64 0) ∧ w'.cell? ⟨gj, 9, none⟩ = some (.int .i64 0)) ∧ (w'.cell? (ad.add i) = some (.string kk)))) (first | exact ⟨hM2, hM2.cj, HKEY.out _ hM2⟩ | go_keep) (first | (go_at_call 21; refine (HO1.out _ hM2).mono ?_; rintro e' w4 ⟨rfl, hB⟩; replace hM2 := hM2.below hB) | (go_at_call 8; refine (HO3.out _).mono ?_; rintro e' w4 ⟨rfl, hB⟩; replace hM2 := hM2.below hB))
          clear hcs hky HJ e1 e2 e2' e3 e4 e4' e5 e6
          have HJ := Aside0.mk hM2
          clear hM2 HO1 HO2 HO3
          go_wp2_with fail
          go_loopw [14] (fun v0 wr => ∃ j : Nat, v0 = .int .i64 j ∧ j ≤ i ∧ Aside0 (JB w wr gj gh n A m cp b (some ad) ks)) (fun v0 _ => i - (intOf v0).toNat)
          case atStart => exact ⟨0, rfl, Nat.zero_le _, HJ⟩
          case round =>
            clear HJ
            obtain ⟨j, rfl, hj, HJ⟩ := hrel
            by_cases hji : j < i
            · have q2 : (j : Int) < (ks.length : Int) := Int.ofNat_lt.2 (by omega)
              have p2 : (0 : Int) ≤ (j : Int) := Int.natCast_nonneg j
              have d5 : decide ((j : Int) < (i : Int)) = true := decide_eq_true (by omega)
              have d6 : decide (j < i) = true := decide_eq_true hji
              have hw5 : wrap64 ((j : Int) + 1) = ((j + 1 : Nat) : Int) := wrap_succB j (by omega)
              have HKY2 := Aside0.mk (fun (V : World) (h : JB w V gj gh n A m cp b (some ad) ks) => h.key j (by omega))
              have HXS2 := Aside0.mk (HKS.out.2 _ (List.getElem_mem (show j < ks.length by omega)))
              generalize ks[j] = k2 at HKY2 HXS2
              obtain ⟨cv, hcv⟩ : ∃ cv, cv = cmpL k2.toList kk.toList := ⟨_, rfl⟩
              obtain ⟨oo, hoo⟩ : ∃ oo, oo = ofI n b k2 := ⟨_, rfl⟩
              have HCM := Aside0.mk (fun (V : World) => (by have q := nums_Compare.calls (k2.size + 1) k2 kk cv V (by rw [hcv]; exact nums_Compare_eq k2 kk (by have := HXS2.out; omega) _ (by omega)); exact q : Calls Try.prog 19 #[.string k2, .string kk] V fun e w' => e = .returned (.int .i64 cv) ∧ Below V.heap.size V w'))
              have HO4 := Aside0.mk (fun (V : World) (h : JB w V gj gh n A m cp b (some ad) ks) => (by have q := parts_Of.calls 0 n A cp b false 0 0 0 0 0 0 k2 oo V (by have := h.2.2.2.1; rw [HM.out] at this; exact (Kd.R_reads' this).2.2) (by have := HM.out; have := HCP2.out; omega) (by unfold parts_Of.f; rw [if_pos ⟨F1.out, HXS2.out, by have := HN.out; omega⟩, hoo]); rw [← HM.out] at q; exact q : Calls Try.prog 21 #[.agg #[.int .i64 0, .int .i64 n, .slice A m cp, .bool false, .int .i64 0, .int .i64 0, .int .i64 0, .int .i64 0, .int .i64 0, .int .i64 0], .string k2] V fun e w' => e = .returned (.int .i64 oo) ∧ Below V.heap.size V w'))
              have HCASE : Aside0 ((cv = -1 ∧ oo ≤ pp) ∨ (cv = 0 ∧ oo = pp) ∨ (cv = 1 ∧ pp ≤ oo)) := ⟨by
                have hp := HPP.out
                rcases cmpL_cases k2.toList kk.toList with h | h | h
                · exact .inl ⟨by rw [hcv, h], by rw [hoo, hp]; exact F6.out _ _ (by omega)⟩
                · refine .inr (.inl ⟨by rw [hcv, h], ?_⟩)
                  have h2 : ¬ cmpL kk.toList k2.toList < 0 := fun q => (cmpL_swap _ _).1 q (by omega)
                  have h3 : cmpL kk.toList k2.toList ≤ 0 := by
                    rcases Int.lt_or_le 0 (cmpL kk.toList k2.toList) with q | q
                    · have := (cmpL_swap k2.toList kk.toList).2 (by omega); omega
                    · exact q
                  have a1 := F6.out k2 kk (by omega)
                  have a2 := F6.out kk k2 h3
                  omega
                · refine .inr (.inr ⟨by rw [hcv, h], ?_⟩)
                  have h3 : cmpL kk.toList k2.toList ≤ 0 := by
                    rcases Int.lt_or_le 0 (cmpL kk.toList k2.toList) with q | q
                    · have := (cmpL_swap k2.toList kk.toList).2 (by omega); omega
                    · exact q
                  rw [hoo, hp]
                  exact F6.out _ _ h3⟩
              clear hcv hoo
              replace p2 := eq_true p2
              replace q2 := eq_true q2
              go_wp2_with fail
              have hM2 := HJ.out.below (below_drew1 (Below.refl _ _))
              have hky := HKEY.out _ HJ.out
              have hky2 := HKY2.out _ HJ.out
              go_region_held3 (fun w' => JB w w' gj gh n A m cp b (some ad) ks ∧ ((w'.cell? (ad.add j) = some (.string k2)) ∧ (w'.cell? (ad.add i) = some (.string kk)))) (first | exact ⟨hM2, HKY2.out _ hM2, HKEY.out _ hM2⟩ | go_keep) ((go_at_call 19; refine (HCM.out _).mono ?_; rintro e' w4 ⟨rfl, hB⟩; replace hM2 := hM2.below hB))
              clear hky hky2 HJ
              have HJ := Aside0.mk hM2
              clear hM2
              go_wp2_with fail
              have hM2 := HJ.out.below (below_drew1 (Below.refl _ _))
              have hcs := HJ.out.cj
              have hky2 := HKY2.out _ HJ.out
              go_region_held3 (fun w' => JB w w' gj gh n A m cp b (some ad) ks ∧ ((w'.cell? ⟨gj, 0, none⟩ = some (.int .i64 0) ∧ w'.cell? ⟨gj, 1, none⟩ = some (.int .i64 n) ∧ w'.cell? ⟨gj, 2, none⟩ = some (.slice A m cp) ∧ w'.cell? ⟨gj, 3, none⟩ = some (.bool false) ∧ w'.cell? ⟨gj, 4, none⟩ = some (.int .i64 0) ∧ w'.cell? ⟨gj, 5, none⟩ = some (.int .i64 0) ∧ w'.cell? ⟨gj, 6, none⟩ = some (.int .i64 0) ∧ w'.cell? ⟨gj, 7, none⟩ = some (.int .i64 0) ∧ w'.cell? ⟨gj, 8, none⟩ = some (.int .i64 0) ∧ w'.cell? ⟨gj, 9, none⟩ = some (.int .i64 0)) ∧ (w'.cell? (ad.add j) = some (.string k2)))) (first | exact ⟨hM2, hM2.cj, HKY2.out _ hM2⟩ | go_keep) ((go_at_call 21; refine (HO4.out _ hM2).mono ?_; rintro e' w4 ⟨rfl, hB⟩; replace hM2 := hM2.below hB))
              clear hcs hky2 HJ
              have HJ := Aside0.mk hM2
              clear hM2 HCM HO4
              rcases HCASE.out with ⟨rfl, ho⟩ | ⟨rfl, rfl⟩ | ⟨rfl, ho⟩
              · have g1 : decide (oo > pp) = false := decide_eq_false (by omega)
                have g2 : decide (pp < oo) = false := decide_eq_false (by omega)
                clear HCASE ho
                go_wp2_with fail
                go_roundw
                case rel => exact ⟨j + 1, by first | rw [hw5] | rfl, by omega, HJ⟩
                case measure => (try rw [hw5]); simp only [intOf, Int.toNat_natCast]; omega
              · have g1 : (oo != oo) = false := by simp
                clear HCASE
                go_wp2_with fail
                go_roundw
                case rel => exact ⟨j + 1, by first | rw [hw5] | rfl, by omega, HJ⟩
                case measure => (try rw [hw5]); simp only [intOf, Int.toNat_natCast]; omega
              · have g1 : decide (oo < pp) = false := decide_eq_false (by omega)
                clear HCASE ho
                go_wp2_with fail
                go_roundw
                case rel => exact ⟨j + 1, by first | rw [hw5] | rfl, by omega, HJ⟩
                case measure => (try rw [hw5]); simp only [intOf, Int.toNat_natCast]; omega
            · have d5 : decide ((j : Int) < (i : Int)) = false := decide_eq_false (by omega)
              have d6 : decide (j < i) = false := decide_eq_false hji
              clear hji hj
              go_wp2_with fail
              go_roundw
              case rel => exact ⟨i + 1, by first | rw [hw4] | rfl, by omega, by omega, HJ⟩
              case measure => (try rw [hw4]); simp only [intOf, Int.toNat_natCast]; omega
        · have q1 : (i : Int) < (ks.length : Int) := Int.ofNat_lt.2 hlt
          have d1 : decide ((i : Int) < (ks.length : Int)) = true := decide_eq_true q1
          have d2 : decide (i < ks.length) = true := decide_eq_true hlt
          have d3 : decide ((i : Int) < 40) = false := decide_eq_false (by omega)
          have d4 : decide (i < 40) = false := decide_eq_false hl4
          clear q1 hlt hl4
          go_wp2_with fail
          go_ret
          exact ⟨rfl, HJ.out.2.2.1⟩
      · have d1 : decide ((i : Int) < (ks.length : Int)) = false := decide_eq_false (by omega)
        have d2 : decide (i < ks.length) = false := decide_eq_false hlt
        clear hlt
        go_wp2_with fail
        go_ret
        exact ⟨rfl, HJ.out.2.2.1⟩
/-- The law as a function with a contract: true of whatever is not too long. -/
def winnowlaw14_PartsOrder.f (l0 : List ByteArray) (a1 : Int) (l2 : List ByteArray) : Option Bool := if (l2.length ≤ 140737488351232 ∧ ∀ x ∈ l2, x.size ≤ 140737488351232) ∧ (-9223372036854775808 ≤ a1 ∧ a1 ≤ 9223372036854775807) then some true else none
theorem winnowlaw14_PartsOrder.calls (A0 : Option Addr) (c0 : Nat) (l0 : List ByteArray) (a1 : Int) (A2 : Option Addr) (c2 : Nat) (l2 : List ByteArray) (r : Bool) (w : World) (hr0 : Kd.C Kd.string w A0 l0.length l0) (hc0 : l0.length ≤ c0) (hr2 : Kd.C Kd.string w A2 l2.length l2) (hc2 : l2.length ≤ c2) (h : winnowlaw14_PartsOrder.f l0 a1 l2 = some r) :
    Calls Try.prog 7 #[.slice A0 l0.length c0, .int .i64 a1, .slice A2 l2.length c2] w fun e w' => e = .returned (.bool r) ∧ Below w.heap.size w w' := by
  unfold winnowlaw14_PartsOrder.f at h
  by_cases hc : (l2.length ≤ 140737488351232 ∧ ∀ x ∈ l2, x.size ≤ 140737488351232) ∧ (-9223372036854775808 ≤ a1 ∧ a1 ≤ 9223372036854775807)
  · rw [if_pos hc] at h
    injection h with h
    subst h
    exact POrder_walk A0 c0 l0 a1 A2 c2 l2 w hr0 hc0 hr2 hc2 hc.1 hc.2
  · rw [if_neg hc] at h
    cases h
end Go.Proofs.Ytbjlfenappnccaa.P

end
