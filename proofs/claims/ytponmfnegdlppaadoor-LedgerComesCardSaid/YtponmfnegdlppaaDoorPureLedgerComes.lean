/- LedgerComes: the run comes to its end, round by round. -/
import Derived.Test.YtponmfnegdlppaaDoorSLedgerComes
import Derived.Test.YtponmfnegdlppaaDoorMC6
namespace Go.Proofs.YtponmfnegdlppaaDoor.P
open Go.RowKit Go.Proofs.YtponmfnegdlppaaDoorW.PrintWords Go.Proofs.YtponmfnegdlppaaDoorW.PrintLast Go.Proofs.YtponmfnegdlppaaDoorW.PrintMore
set_option linter.unusedVariables false

theorem sumW_eq (g : S38 → Int) : ∀ (l : List S38) (n : Int), 0 ≤ n → n + 17 * l.length ≤ 100000 → (∀ x ∈ l, 0 ≤ g x ∧ g x ≤ 17) → sumW g l n = n + sumL g l
  | [], n, _, _, _ => by simp [sumW, sumL]
  | x :: l, n, h0, h1, h2 => by
    have hx := h2 x (List.mem_cons_self ..)
    have e : sumL g (x :: l) = g x + sumL g l := by unfold sumL; rw [List.map_cons, List.sum_cons]
    rw [List.length_cons] at h1
    push_cast at h1
    rw [sumW, w64 (n := n + g x) (by omega) (by omega), sumW_eq g l (n + g x) (by omega) (by omega) (fun y m => h2 y (List.mem_cons_of_mem _ m)), e]
    omega
theorem begun_eq {t : Int} {l0 l1 : List S38} {fl : Bool} {m r : Nat} {bg ch : Nat → Bool} {s c : Int} (h : INV t l0 l1 fl m r bg ch s c) (hm : m ≤ 6) (hr : r ≤ 6) : begunP t l0 l1 fl = (s, c) := by
  obtain ⟨q1, q2, q3, q4, q5, q6, q7, q8, q9⟩ := (check_iff _ _ _ _).1 h.check
  have n0 := h.n0
  have n1 := h.n1
  have hall : ∀ x ∈ l0 ++ l1, (0 ≤ x.f1 ∧ x.f1 ≤ 17) ∧ (0 ≤ x.f2 ∧ x.f2 ≤ 17) := fun x mx => by
    rcases List.mem_append.1 mx with mx | mx
    · obtain ⟨g1, g2, g3, g4, g5, g6, g7⟩ := good_state (q6 x mx)
      by_cases e : x.f0 = 0
      · have := g3 e; omega
      · have := g4 e; omega
    · obtain ⟨g1, g2, g3, g4, g5, g6, g7⟩ := good_state (q7 x mx)
      by_cases e : x.f0 = 0
      · have := g3 e; omega
      · have := g4 e; omega
  have b1 := sumL_le S38.f1 17 (by decide) l0 (fun x mx => (hall x (List.mem_append_left _ mx)).1)
  have b2 := sumL_le S38.f2 17 (by decide) l0 (fun x mx => (hall x (List.mem_append_left _ mx)).2)
  unfold begunP
  rw [if_pos h.check]
  rw [sumW_eq S38.f1 l0 0 (by omega) (by omega) (fun x mx => (hall x (List.mem_append_left _ mx)).1), sumW_eq S38.f2 l0 0 (by omega) (by omega) (fun x mx => (hall x (List.mem_append_left _ mx)).2),
    sumW_eq S38.f1 l1 _ (by omega) (by omega) (fun x mx => (hall x (List.mem_append_right _ mx)).1), sumW_eq S38.f2 l1 _ (by omega) (by omega) (fun x mx => (hall x (List.mem_append_right _ mx)).2), h.starts, h.charges, sumL_app, sumL_app, Int.zero_add, Int.zero_add]
theorem readyM_mem : ∀ (l : List S38) (i : Nat) (x : S29), x ∈ readyM i l → ∃ n : Nat, n < l.length ∧ x = ⟨0, ((i + n : Nat) : Int)⟩ ∧ (rd_T38 l (n : Int)).f0 = 0
  | [], i, x, h => by simp [readyM] at h
  | s :: l, i, x, h => by
    have step : x ∈ readyM (i + 1) l → ∃ n : Nat, n < (s :: l).length ∧ x = ⟨0, ((i + n : Nat) : Int)⟩ ∧ (rd_T38 (s :: l) (n : Int)).f0 = 0 := fun m => by
      obtain ⟨n, hn, e, e2⟩ := readyM_mem l (i + 1) x m
      refine ⟨n + 1, by rw [List.length_cons]; omega, by rw [e]; congr 2; omega, ?_⟩
      rw [rd38 l n hn] at e2
      rw [rd38 (s :: l) (n + 1) (by rw [List.length_cons]; omega), List.getElem_cons_succ]
      exact e2
    rw [readyM] at h
    by_cases e : s.f0 = 0
    · rw [if_pos e] at h
      rcases List.mem_cons.1 h with rfl | h
      · exact ⟨0, by simp, rfl, by rw [rd38 (s :: l) 0 (by simp)]; exact e⟩
      · exact step h
    · rw [if_neg e] at h
      exact step h
theorem readyR_mem : ∀ (l : List S38) (i : Nat) (x : S29), x ∈ readyR i l → ∃ n : Nat, n < l.length ∧ x = ⟨1, ((i + n : Nat) : Int)⟩ ∧ ((rd_T38 l (n : Int)).f0 = 0 ∨ (rd_T38 l (n : Int)).f0 = 2)
  | [], i, x, h => by simp [readyR] at h
  | s :: l, i, x, h => by
    have step : x ∈ readyR (i + 1) l → ∃ n : Nat, n < (s :: l).length ∧ x = ⟨1, ((i + n : Nat) : Int)⟩ ∧ ((rd_T38 (s :: l) (n : Int)).f0 = 0 ∨ (rd_T38 (s :: l) (n : Int)).f0 = 2) := fun m => by
      obtain ⟨n, hn, e, e2⟩ := readyR_mem l (i + 1) x m
      refine ⟨n + 1, by rw [List.length_cons]; omega, by rw [e]; congr 2; omega, ?_⟩
      rw [rd38 l n hn] at e2
      rw [rd38 (s :: l) (n + 1) (by rw [List.length_cons]; omega), List.getElem_cons_succ]
      exact e2
    have here : x = ⟨1, (i : Int)⟩ → (s.f0 = 0 ∨ s.f0 = 2) → ∃ n : Nat, n < (s :: l).length ∧ x = ⟨1, ((i + n : Nat) : Int)⟩ ∧ ((rd_T38 (s :: l) (n : Int)).f0 = 0 ∨ (rd_T38 (s :: l) (n : Int)).f0 = 2) := fun e e2 =>
      ⟨0, by simp, by rw [e]; rfl, by rw [rd38 (s :: l) 0 (by simp)]; exact e2⟩
    rw [readyR] at h
    by_cases e : s.f0 = 0
    · rw [if_pos e] at h
      rcases List.mem_cons.1 h with h | h
      · exact here h (.inl e)
      · exact step h
    · rw [if_neg e] at h
      by_cases e2 : s.f0 = 2
      · rw [if_pos e2] at h
        rcases List.mem_cons.1 h with h | h
        · exact here h (.inr e2)
        · exact step h
      · rw [if_neg e2] at h
        exact step h
theorem readyM_none : ∀ (l : List S38) (i : Nat), readyM i l = [] → ∀ x ∈ l, x.f0 ≠ 0
  | [], i, _ => fun x m => absurd m List.not_mem_nil
  | s :: l, i, h => by
    rw [readyM] at h
    by_cases e : s.f0 = 0
    · rw [if_pos e] at h; cases h
    · rw [if_neg e] at h
      intro x m
      rcases List.mem_cons.1 m with rfl | m
      · exact e
      · exact readyM_none l (i + 1) h x m
theorem readyR_none : ∀ (l : List S38) (i : Nat), readyR i l = [] → ∀ x ∈ l, x.f0 ≠ 0 ∧ x.f0 ≠ 2
  | [], i, _ => fun x m => absurd m List.not_mem_nil
  | s :: l, i, h => by
    rw [readyR] at h
    by_cases e : s.f0 = 0
    · rw [if_pos e] at h; cases h
    · rw [if_neg e] at h
      by_cases e2 : s.f0 = 2
      · rw [if_pos e2] at h; cases h
      · rw [if_neg e2] at h
        intro x m
        rcases List.mem_cons.1 m with rfl | m
        · exact ⟨e, e2⟩
        · exact readyR_none l (i + 1) h x m
/-- what is told as ready may be begun -/
theorem RUN.ready {t : Int} {l0 l1 : List S38} {m r : Nat} {s c i bl : Int} (h : RUN t l0 l1 m r s c i bl) (x : S29) (hx : x ∈ readyP t l0 l1 false) : isTask l0 l1 x.f0 x.f1 ∧ ((stP l0 l1 x.f0 x.f1).f0 = 0 ∨ (stP l0 l1 x.f0 x.f1).f0 = 2) ∧ (x.f0 = 1 → allP l0 = true) := by
  obtain ⟨bg, ch, hI⟩ := h.inv
  unfold readyP at hx
  rw [if_pos hI.check, if_neg (by decide)] at hx
  rcases List.mem_append.1 hx with hx | hx
  · obtain ⟨n, hn, rfl, e⟩ := readyM_mem l0 0 x hx
    rw [Nat.zero_add]
    exact ⟨.inl ⟨rfl, n, rfl, hn⟩, .inl (by unfold stP; rw [if_pos rfl]; exact e), fun q => absurd q (by show ¬ (0 : Int) = 1; decide)⟩
  · by_cases ha : allP l0 = true
    · rw [if_pos ha] at hx
      obtain ⟨n, hn, rfl, e⟩ := readyR_mem l1 0 x hx
      rw [Nat.zero_add]
      exact ⟨.inr ⟨rfl, n, rfl, hn⟩, by unfold stP; rw [if_neg (by show ¬ (1 : Int) = 0; decide)]; exact e, fun _ => ha⟩
    · rw [if_neg ha] at hx
      exact absurd hx List.not_mem_nil
/-- as long as it is not over there is something to do -/
theorem RUN.some_ready {t : Int} {l0 l1 : List S38} {m r : Nat} {s c i bl : Int} (h : RUN t l0 l1 m r s c i bl) (ho : ¬ allP l1 = true) : readyP t l0 l1 false ≠ [] := by
  obtain ⟨bg, ch, hI⟩ := h.inv
  obtain ⟨q1, q2, q3, q4, q5, q6, q7, q8, q9⟩ := (check_iff _ _ _ _).1 hI.check
  unfold readyP
  rw [if_pos hI.check, if_neg (by decide)]
  intro e
  obtain ⟨e1, e2⟩ := List.append_eq_nil_iff.1 e
  have hall : allP l0 = true := by
    unfold allP
    rw [List.all_eq_true]
    intro x mx
    obtain ⟨g1, g2, _⟩ := good_state (q6 x mx)
    have a1 := readyM_none l0 0 e1 x mx
    have a2 := h.rest x (List.mem_append_left _ mx)
    have a3 := g2 rfl
    exact decide_eq_true (by omega)
  rw [if_pos hall] at e2
  refine ho ?_
  unfold allP
  rw [List.all_eq_true]
  intro x mx
  obtain ⟨g1, g2, _⟩ := good_state (q7 x mx)
  have a1 := readyR_none l1 0 e2 x mx
  have a2 := h.rest x (List.mem_append_right _ mx)
  exact decide_eq_true (by omega)
theorem RUN.bounds {t : Int} {l0 l1 : List S38} {m r : Nat} {s c i bl : Int} (h : RUN t l0 l1 m r s c i bl) (hm : m ≤ 6) (hr : r ≤ 6) : 0 ≤ s ∧ s ≤ 1000 ∧ 0 ≤ c ∧ c ≤ 1000 ∧ s ≤ m + r + c ∧ 0 ≤ bl ∧ bl ≤ 1000 ∧ i ≤ m + r + c + bl := by
  obtain ⟨bg, ch, hI⟩ := h.inv
  have a := hI.small hm hr
  have b0 := h.b0
  have b1 := h.b1
  have hc := h.count
  have hz := sumL_le hd 1 (by omega) (l0 ++ l1) (fun x _ => by unfold hd; split <;> omega)
  omega
theorem allP_rd {l : List S38} (h : allP l = true) (n : Nat) (hn : n < l.length) : (rd_T38 l (n : Int)).f0 = 3 := by
  unfold allP at h
  rw [rd38 l n hn]
  exact of_decide_eq_true (List.all_eq_true.1 h _ (List.getElem_mem hn))
/-- behind the last round -/
theorem RUN.last {t : Int} {l0 l1 : List S38} {m r : Nat} {s c i bl : Int} (h : RUN t l0 l1 m r s c i bl) (hm : m ≤ 6) (hr : r ≤ 6) (ho : allP l1 = true) : ∀ (d k n : Nat), n + d = r → d < k → winnowlaw19_LedgerComes.l1 k m r bl i (n : Int) t l0 l1 false = some true := by
  have hb := h.bounds hm hr
  obtain ⟨bg, ch, hI⟩ := h.inv
  have n1 := hI.n1
  intro d
  induction d with
  | zero =>
    intro k n hn hk
    obtain ⟨k, rfl⟩ : ∃ q, k = q + 1 := ⟨k - 1, by omega⟩
    rw [winnowlaw19_LedgerComes.l1, if_neg (by omega)]
    unfold ledger_Begun.f
    rw [if_pos (small_of hI.n0 hI.n1 hm hr), begun_eq hI hm hr, Option.bind_some, if_neg (by decide)]
    dsimp only
    rw [w64 (n := (m : Int) + r) (by omega) (by omega), w64 (n := (m : Int) + r + c) (by omega) (by omega), w64 (n := (m : Int) + r + c + bl) (by omega) (by omega), if_pos (by omega), decide_eq_true (by omega)]
  | succ d ih =>
    intro k n hn hk
    obtain ⟨k, rfl⟩ : ∃ q, k = q + 1 := ⟨k - 1, by omega⟩
    rw [winnowlaw19_LedgerComes.l1, if_pos (by omega), if_pos (by omega), if_pos (by omega), if_pos (allP_rd ho n (by omega)), show wrap64 ((n : Int) + 1) = ((n + 1 : Nat) : Int) by unfold wrap64; omega]
    exact ih k (n + 1) (by omega) (by omega)
theorem rd29_mem {l : List S29} {n : Nat} (h : n < l.length) : rd_T29 l (n : Int) ∈ l := by
  have : rd_T29 l (n : Int) = l[n] := by
    unfold rd_T29
    rw [Int.toNat_natCast, List.getD_eq_getElem?_getD, List.getElem?_eq_getElem h]
    rfl
  rw [this]
  exact List.getElem_mem h
theorem RUN.few {t : Int} {l0 l1 : List S38} {m r : Nat} {s c i bl : Int} (h : RUN t l0 l1 m r s c i bl) (hm : m ≤ 6) (hr : r ≤ 6) : c ≤ 192 := by
  obtain ⟨bg, ch, hI⟩ := h.inv
  obtain ⟨q1, q2, q3, q4, q5, q6, q7, q8, q9⟩ := (check_iff _ _ _ _).1 hI.check
  have e := sumL_le S38.f2 16 (by decide) (l0 ++ l1) (fun x mx => by
    rcases List.mem_append.1 mx with mx | mx
    · obtain ⟨g1, g2, g3, g4, g5, g6, g7⟩ := good_state (q6 x mx); omega
    · obtain ⟨g1, g2, g3, g4, g5, g6, g7⟩ := good_state (q7 x mx); omega)
  have hlen : (l0 ++ l1).length = m + r := by rw [List.length_append, hI.n0, hI.n1]
  rw [← hI.charges, hlen] at e
  push_cast at e
  omega
set_option maxHeartbeats 1000000 in
theorem RUN.comes (l3 l4 : List Int) {t : Int} {m r : Nat} (hm : m ≤ 6) (hr1 : 1 ≤ r) (hr : r ≤ 6) : ∀ (M : Nat) (l0 l1 : List S38) (s c i bl : Int), RUN t l0 l1 m r s c i bl → 0 ≤ i → 13 * (200 - c) + sumL nd (l0 ++ l1) ≤ M → ∀ k, 271000 + 7 * M ≤ k → winnowlaw19_LedgerComes.l0 k l3 l4 m r t bl i t l0 l1 false = some true := by
  intro M
  induction M using Nat.strongRecOn with
  | _ M ih =>
    intro l0 l1 s c i bl h hi hM k hk
    have hb := h.bounds hm hr
    obtain ⟨bg, ch, hI⟩ := h.inv
    have hsmall := small_of hI.n0 hI.n1 hm hr
    obtain ⟨k, rfl⟩ : ∃ q, k = q + 1 := ⟨k - 1, by omega⟩
    rw [winnowlaw19_LedgerComes.l0, over_eq k t l0 l1 false (by omega), Option.bind_some]
    unfold overP
    rw [if_pos hI.check, Bool.false_or]
    by_cases ho : allP l1 = true
    · rw [if_pos ho]
      exact h.last hm hr ho r k 0 (by omega) (by omega)
    rw [if_neg ho, ready_eq k t l0 l1 false (by omega), Option.bind_some]
    unfold ledger_Begun.f
    rw [if_pos hsmall, begun_eq hI hm hr, Option.bind_some]
    dsimp only
    have hne := h.some_ready ho
    have hrd := h.ready
    obtain ⟨L, hL⟩ : ∃ L, readyP t l0 l1 false = L := ⟨_, rfl⟩
    have hLl := readyP_len t l0 l1 false
    rw [hL] at hne hrd hLl ⊢
    have hpos : 0 < L.length := List.length_pos_iff.2 hne
    rw [if_neg (by omega), w64 (n := (m : Int) + r) (by omega) (by omega), w64 (n := (m : Int) + r + c) (by omega) (by omega), w64 (n := (m : Int) + r + c + bl) (by omega) (by omega), decide_eq_false (by omega)]
    obtain ⟨k, rfl⟩ : ∃ q, k = q + 1 := ⟨k - 1, by omega⟩
    rw [winnowlaw19_LedgerComes.j2, if_neg (by decide)]
    -- the pick
    have PICK : ∃ p : Nat, p < L.length ∧ (if i < (l3.length : Int) then (if 0 ≤ i then ((winnowlaw19_few.f (rd l3 i) 0 (wrap64 ((L.length : Int) - 1))).bind fun t481 => (winnowlaw19_LedgerComes.j3 k l3 l4 m r t bl i L t481 t l0 l1 false)) else (none)) else (winnowlaw19_LedgerComes.j3 k l3 l4 m r t bl i L 0 t l0 l1 false)) = winnowlaw19_LedgerComes.j3 k l3 l4 m r t bl i L (p : Int) t l0 l1 false := by
      by_cases h1 : i < (l3.length : Int)
      · have hll : L.length ≤ 12 := by
          have e := readyM_len l0 0
          have e2 := readyR_len l1 0
          have n0 := hI.n0
          have n1 := hI.n1
          rw [← hL]
          unfold readyP
          rw [if_pos hI.check, if_neg (by decide), List.length_append]
          split
          · omega
          · simp; omega
        rw [if_pos h1, if_pos hi, w64 (n := (L.length : Int) - 1) (by omega) (by omega), few_eq _ _ _ (by omega) (by omega) (by omega), Option.bind_some]
        have e := fewP_in (rd l3 i) 0 ((L.length : Int) - 1) (by omega)
        obtain ⟨p, hp⟩ : ∃ p : Nat, fewP (rd l3 i) 0 ((L.length : Int) - 1) = p := ⟨(fewP (rd l3 i) 0 ((L.length : Int) - 1)).toNat, by omega⟩
        rw [hp] at e ⊢
        exact ⟨p, by omega, rfl⟩
      · rw [if_neg h1]
        exact ⟨0, hpos, rfl⟩
    obtain ⟨p, hp, e⟩ := PICK
    rw [e]
    clear e
    obtain ⟨k, rfl⟩ : ∃ q, k = q + 1 := ⟨k - 1, by omega⟩
    rw [winnowlaw19_LedgerComes.j3]
    -- the answer
    have ANS : ∃ a : Int, 0 ≤ a ∧ a ≤ 100 ∧ (if i < (l4.length : Int) then (if 0 ≤ i then ((winnowlaw19_few.f (rd l4 i) 0 (wrap64 (2 + (m : Int)))).bind fun t483 => (winnowlaw19_LedgerComes.j4 k l3 l4 m r t bl i L (p : Int) t483 t l0 l1 false)) else (none)) else (winnowlaw19_LedgerComes.j4 k l3 l4 m r t bl i L (p : Int) 0 t l0 l1 false)) = winnowlaw19_LedgerComes.j4 k l3 l4 m r t bl i L (p : Int) a t l0 l1 false := by
      by_cases h1 : i < (l4.length : Int)
      · rw [if_pos h1, if_pos hi, w64 (n := 2 + (m : Int)) (by omega) (by omega), few_eq _ _ _ (by omega) (by omega) (by omega), Option.bind_some]
        have e := fewP_in (rd l4 i) 0 (2 + (m : Int)) (by omega)
        exact ⟨_, by omega, by omega, rfl⟩
      · rw [if_neg h1]
        exact ⟨0, by omega, by omega, rfl⟩
    obtain ⟨ans, ha1, ha2, e⟩ := ANS
    rw [e]
    clear e
    obtain ⟨k, rfl⟩ : ∃ q, k = q + 1 := ⟨k - 1, by omega⟩
    rw [winnowlaw19_LedgerComes.j4, if_pos (by omega), if_pos (by omega)]
    obtain ⟨hT, hst, hal⟩ := hrd _ (rd29_mem hp)
    obtain ⟨x, hx⟩ : ∃ x, rd_T29 L (p : Int) = x := ⟨_, rfl⟩
    rw [hx] at hT hst hal ⊢
    obtain ⟨c0, c1, d0, d1, a, fr, s', c', bl', bg', ch', hB, hJ, hE, hR, hbl, hcc, hMM⟩ := h.round hm hr hT hst hal ans ⟨ha1, ha2⟩
    unfold ledger_Begin.f
    rw [if_pos hsmall, hB, Option.bind_some]
    dsimp only
    rw [if_pos rfl, sized_eq t c0 c1 false m r hJ.n0 hJ.n1, Option.bind_some, if_pos rfl]
    have hn0 := hI.n0
    have hn1 := hI.n1
    have GO : winnowlaw19_LedgerComes.j5 k l3 l4 m r t bl i ans false x.f0 x.f1 t c0 c1 false = some true := by
      obtain ⟨k, rfl⟩ : ∃ q, k = q + 1 := ⟨k - 1, by omega⟩
      rw [winnowlaw19_LedgerComes.j5, if_neg (by decide), hE k (by omega), Option.bind_some]
      dsimp only
      obtain ⟨bg2, ch2, hK⟩ := hR.inv
      rw [if_pos rfl, sized_eq t d0 d1 false m r hK.n0 hK.n1, Option.bind_some]
      obtain ⟨k, rfl⟩ : ∃ q, k = q + 1 := ⟨k - 1, by omega⟩
      rw [winnowlaw19_LedgerComes.j6, if_neg (by decide), held_eq hK hr k (by omega), Option.bind_some, held_eq hJ hr k (by omega), Option.bind_some, w64 (n := i + 1) (by omega) (by omega), w64 (n := bl + 1) (by omega) (by omega)]
      have hb2 := hR.bounds hm hr
      have hz : ∀ {a0 a1 : List S38} {bgx chx : Nat → Bool} {sx cx : Int}, INV t a0 a1 false m r bgx chx sx cx → sumL hd (a0 ++ a1) = sumL hd a1 := fun {a0 a1 bgx chx sx cx} hX => by
        obtain ⟨q1, q2, q3, q4, q5, q6, q7, q8, q9⟩ := (check_iff _ _ _ _).1 hX.check
        have := sumL_le hd 0 (by omega) a0 (fun x mx => by
          obtain ⟨g1, g2, _⟩ := good_state (q6 x mx)
          unfold hd
          rw [if_neg (g2 rfl)]
          omega)
        rw [sumL_app]
        omega
      rw [hz hK, hz hJ]
      have hnn := sumL_le nd 1 (by omega) (d0 ++ d1) (fun x _ => by unfold nd; split <;> omega)
      have hfew := hR.few hm hr
      have M1 : 1 ≤ M := by omega
      by_cases hg : sumL hd c1 < sumL hd d1
      · rw [if_pos hg] at hbl
        subst hbl
        rw [if_pos hg]
        exact ih (M - 1) (by omega) d0 d1 s' c' (i + 1) (bl + 1) hR (by omega) (by omega) k (by omega)
      · rw [if_neg hg] at hbl
        rw [if_neg hg, ← hbl]
        exact ih (M - 1) (by omega) d0 d1 s' c' (i + 1) bl' hR (by omega) (by omega) k (by omega)
    rcases hT with ⟨e0, n, e1, hn⟩ | ⟨e0, n, e1, hn⟩
    · rw [if_neg (by omega), if_pos e0, if_neg (by omega)]
      exact GO
    · rw [if_neg (by omega), if_neg (by omega), decide_eq_false (by omega)]
      exact GO
theorem new_eq {m r : Nat} {t : Int} (hm : m ≤ 6) (hr1 : 1 ≤ r) (hr : r ≤ 6) (h1 : 1 ≤ t) (h2 : t ≤ 5) : ledger_New.f m r t = some (t, List.replicate m z38, List.replicate r z38, false, 0) := by
  unfold ledger_New.f
  rw [if_neg (by omega), if_neg (by omega), if_neg (by omega), if_neg (by omega), if_neg (by omega), if_neg (by omega), if_pos (by omega), if_pos (by omega), if_pos (by omega), if_pos (by omega), Int.toNat_natCast, Int.toNat_natCast]
theorem LedgerComes_pure : LedgerComesPure := by
  intro a0 a1 a2 a3 a4 _ _ _ _ _
  have e0 := fewP_in a0 0 6 (by omega)
  have e1 := fewP_in a1 1 6 (by omega)
  have e2 := fewP_in a2 1 5 (by omega)
  obtain ⟨m, hm⟩ : ∃ m : Nat, fewP a0 0 6 = m := ⟨(fewP a0 0 6).toNat, by omega⟩
  obtain ⟨r, hr⟩ : ∃ r : Nat, fewP a1 1 6 = r := ⟨(fewP a1 1 6).toNat, by omega⟩
  obtain ⟨t, ht⟩ : ∃ t : Int, fewP a2 1 5 = t := ⟨_, rfl⟩
  rw [hm] at e0
  rw [hr] at e1
  rw [ht] at e2
  have hS := RUN.start (t := t) (m := m) (r := r) (by omega) (by omega) (by omega) (by omega) (by omega)
  refine ⟨300000 + 1, ?_⟩
  unfold winnowlaw19_LedgerComes.f
  rw [few_eq a0 0 6 (by omega) (by omega) (by omega), few_eq a1 1 6 (by omega) (by omega) (by omega), few_eq a2 1 5 (by omega) (by omega) (by omega), hm, hr, ht]
  simp only [Option.bind_some]
  rw [new_eq (by omega) (by omega) (by omega) (by omega) (by omega), Option.bind_some]
  dsimp only
  rw [if_pos rfl, sized_eq t _ _ false m r List.length_replicate List.length_replicate, Option.bind_some, winnowlaw19_LedgerComes.j0, if_neg (by decide)]
  have hn := sumL_le nd 1 (by omega) (List.replicate m z38 ++ List.replicate r z38) (fun x _ => by unfold nd; split <;> omega)
  rw [List.length_append, List.length_replicate, List.length_replicate] at hn
  push_cast at hn
  exact RUN.comes a3 a4 (by omega) (by omega) (by omega) 2700 _ _ 0 0 0 0 hS (by omega) (by omega) 300000 (by omega)
end Go.Proofs.YtponmfnegdlppaaDoor.P
