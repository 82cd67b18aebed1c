/- Several texts laid together (wip/tools/merge2.py): HSplits, Pf20, CutPlain. -/
import Derived.Test.YtbcggfjfgoabpaaMLi2
import Derived.Outline
import Derived.Test.YtbcggfjfgoabpaaMLi1
section
/- lines.Splits: contract by hand (printed by HSplits.gen.py). -/
namespace Go.Proofs.Ytbcggfjfgoabpaa.P
open Go.RowKit Go.Shelf Go.Proofs.YtbcggfjfgoabpaaW.PrintWords Go.Proofs.YtbcggfjfgoabpaaW.PrintLast Go.Proofs.YtbcggfjfgoabpaaW.PrintMore
attribute [local go_sem] Oper.semAt_some max2_int min2_int max_two min_two
set_option linter.unusedVariables false
set_option linter.unusedSimpArgs false

/-- where the loop over the pieces stands -/
def SPI (t : ByteArray) (w : World) (n1 : Nat) (Ap : Option Addr) (m cp : Nat) (ps : List S33) (i : Nat) (Ds : List Nat) (v : Value) (W : World) : Prop :=
  Marked Ds W ∧ (∀ D ∈ Ds, n1 ≤ D) ∧ Boxed W w.heap.size 9 (.string t) ∧ w.heap.size < n1 ∧ Kd.R k33 33 W w.heap.size (fun k => k < n1) (.slice Ap m cp) ps ∧
  Kd.R k23 23 W w.heap.size (fun k => n1 ≤ k) v ((ps.take i).map (splitOf t)) ∧ Below w.heap.size w W ∧ n1 ≤ W.heap.size ∧ ∀ p ∈ ps.take i, (splitOf t p).f1.size ≤ 65536

theorem alloc_drew_ (Y : World) (o : Obj) : (Y.alloc o).drew = Y.drew.alloc o := rfl
/-- one split more -/
theorem SPI.add {t : ByteArray} {w : World} {n1 : Nat} {Ap : Option Addr} {m cp : Nat} {ps : List S33} {i : Nat} {Ds : List Nat} {v : Value} {W X : World} {f g : Int} {x : S23} {D : Nat} (h : SPI t w n1 Ap m cp ps i Ds v W) (hp : (⟨f, g⟩ : S33) ∈ ps ∧ ps.take (i + 1) = ps.take i ++ [⟨f, g⟩])
    (hBX : Below W.heap.size W X) (hD : X.heap[D]? = some (.deferred (some []))) (hDl : W.heap.size ≤ D) (hx : splitOf t ⟨f, g⟩ = x) (hsz : x.f1.size ≤ 65536) (hl : ps.length ≤ 1000) :
    (∀ k, X.heap.size ≤ k → n1 ≤ k) ∧ Kd.R k23 23 X w.heap.size (fun k => n1 ≤ k) v ((ps.take i).map (splitOf t)) ∧ Below w.heap.size w X ∧ w.heap.size ≤ X.heap.size ∧ (((ps.take i).map (splitOf t)).length + 1) * 24 ≤ 140737488355328 ∧
      ∀ v1 w1, Kd.R k23 23 w1 w.heap.size (fun k => n1 ≤ k) v1 ((ps.take i).map (splitOf t) ++ [x]) → Below w.heap.size w w1 → X.grownBy w1 v.ownBlock → SPI t w n1 Ap m cp ps (i + 1) (D :: Ds) v1 w1 := by
  obtain ⟨s1, s2, s3, s4, s5, s6, s7, s8, s9⟩ := h
  have hbw2 := s7.size
  refine ⟨fun k hk => ?_, Kd.R_below s6 hBX, below_step s7 hBX, ?_, ?_, fun v1 w1 ho hb1 hg => ?_⟩
  · have := hBX.size; omega
  · have := hBX.size; omega
  · rw [List.length_map]
    have := List.length_take_le' i ps
    omega
  · have hcells : ∀ k : Nat, v.ownBlock = some k → ∃ cells, X.heap[k]? = some (.cells cells 23 (0, 0)) := by
      obtain ⟨inner, hown⟩ := Kd.R_own (Kd.R_below s6 hBX)
      exact own_typed hown
    have hn1 : ∀ k : Nat, v.ownBlock = some k → n1 ≤ k := fun k hk => s6.1 k hk
    have keep : ∀ k : Nat, k < X.heap.size → (∀ cells, X.heap[k]? ≠ some (.cells cells 23 (0, 0))) → w1.heap[k]? = X.heap[k]? := fun k hk hn => hg.block k hk (fun e => by obtain ⟨cells, hc⟩ := hcells k e.symm; exact hn cells hc)
    have keep2 : ∀ k : Nat, k < n1 → w1.heap[k]? = X.heap[k]? := fun k hk => hg.block k (by have := hBX.size; omega) (fun e => by have := hn1 k e.symm; omega)
    refine ⟨?_, ?_, ?_, s4, ?_, ?_, hb1, ?_, ?_⟩
    · refine Marked.cons ?_ ?_ ?_
      · refine s1.same fun D' hD' => ?_
        have h1 := s1.2 D' hD'
        have h2 := (hBX.block D' (s1.lt hD')).trans h1
        rw [keep D' (Array.getElem?_eq_some_iff.1 h2).1 (fun cells e => by rw [h2] at e; cases e), h2, h1]
      · rw [keep D (Array.getElem?_eq_some_iff.1 hD).1 (fun cells e => by rw [hD] at e; cases e)]; exact hD
      · intro hm; have := s1.lt hm; omega
    · intro D' hD'
      rcases List.mem_cons.1 hD' with rfl | hD'
      · omega
      · exact s2 D' hD'
    · exact (keep2 _ s4).trans ((hBX.block _ s3.lt).trans s3)
    · exact Kd.R_move (Kd.R_below s5 hBX) (fun k hk => keep2 k hk)
    · rw [hp.2, List.map_append, List.map_singleton, hx]; exact ho
    · have := hg.size; have := hBX.size; omega
    · intro q hq
      rw [hp.2] at hq
      rcases List.mem_append.1 hq with hq | hq
      · exact s9 q hq
      · rw [List.mem_singleton.1 hq, hx]; exact hsz

/-- left with a split that is too long -/
theorem SPI.long {t : ByteArray} {w : World} {n1 : Nat} {Ap : Option Addr} {m cp : Nat} {ps : List S33} {i : Nat} {Ds : List Nat} {v : Value} {W X : World} {p : S33} {D : Nat} (h : SPI t w n1 Ap m cp ps i Ds v W) (hp : p ∈ ps) (hBX : Below W.heap.size W X) (hD : X.heap[D]? = some (.deferred (some []))) (hDl : W.heap.size ≤ D)
    (hsz : 65536 < (splitOf t p).f1.size) : Marked (D :: Ds) X ∧ splitsP t ps = ([], 2) ∧ ∀ W', Shut (D :: Ds) X W' → Below w.heap.size w W' := by
  obtain ⟨s1, s2, s3, s4, s5, s6, s7, s8, s9⟩ := h
  refine ⟨Marked.cons (s1.same fun D' hD' => hBX.block D' (s1.lt hD')) hD (fun hm => by have := s1.lt hm; omega), ?_, fun W' hS => ?_⟩
  · unfold splitsP
    rw [if_neg]
    intro ha
    have := List.all_eq_true.1 ha p hp
    have := of_decide_eq_true this
    omega
  · refine hS.grown (below_step s7 hBX) (fun D' hD' => ?_) ?_
    · rcases List.mem_cons.1 hD' with rfl | hD'
      · have := s7.size; omega
      · have := s2 D' hD'; omega
    · have := s7.size; have := hBX.size; omega
/-- left behind the loop -/
theorem SPI.all {t : ByteArray} {w : World} {n1 : Nat} {Ap : Option Addr} {m cp : Nat} {ps : List S33} {Ds : List Nat} {v : Value} {W : World} (h : SPI t w n1 Ap m cp ps ps.length Ds v W) : splitsP t ps = (ps.map (splitOf t), 0) ∧ ∀ W', Shut Ds W W' → Kd.R k23 23 W' w.heap.size (fun _ => True) v (ps.map (splitOf t)) ∧ Below w.heap.size w W' := by
  obtain ⟨s1, s2, s3, s4, s5, s6, s7, s8, s9⟩ := h
  rw [List.take_length] at s6 s9
  refine ⟨?_, fun W' hS => ⟨?_, hS.grown s7 (fun D' hD' => by have := s2 D' hD'; omega) s7.size⟩⟩
  · unfold splitsP
    rw [if_pos (List.all_eq_true.2 fun p hp => decide_eq_true (s9 p hp))]
  · refine Kd.R_mono (Kd.R_move (Kd.R_bound s6) (fun k hk => hS.2.2.2.2 k (fun hD => ?_))) (fun _ _ => trivial)
    obtain ⟨_, _, _, q, _, cells, hc⟩ := hk
    have := s1.2 k hD
    rw [hc] at this
    cases this

set_option maxRecDepth 100000 in
set_option maxHeartbeats 4000000 in
theorem Splits_in (k : Nat) (t : ByteArray) (A : Option Addr) (c : Nat) (pl : List Int) (ps : List S33) (e : Int) (w : World) (ht : t.size ≤ 4194304) (hr : Kd.C (Kd.int .i64) w A pl.length pl) (hc : pl.length ≤ c) (hcut : lines_Cut.f k (t.size : Int) pl = some (ps, e)) (he : (e != 0) = false) (hps : ps.length ≤ 1000) (hpi : ∀ p ∈ ps, 0 ≤ p.f0 ∧ p.f0 ≤ 4194304 ∧ 0 ≤ p.f1 ∧ p.f1 ≤ 4194304) :
    CallsIn Fence.wide 9 Try.prog 24 #[.string t, .slice A pl.length c] w fun e W' => ∃ v, e = .returned (.tuple #[v, .int .i64 (splitsP t ps).2]) ∧ Kd.R k23 23 W' w.heap.size (fun _ => True) v (splitsP t ps).1 ∧ Below w.heap.size w W' := by
  have hro : Fence.wide.round = none := rfl
  have HCUT := Aside0.mk (lines_Cut.calls k (t.size : Int) A c pl ps e (w.alloc (.cells #[.string t] 9)) (Kd.C_alloc hr _) hc hcut)
  have HC := Aside0.mk hc
  have HPI := Aside0.mk hpi
  have HPN := Aside0.mk hps
  have ht2 : (t.size : Int) ≤ 4194304 := by omega
  clear hr hc hcut hps hpi
  refine callsIn_of_wp_marks Try.func24 rfl trivial ?_ hro
  simp only [Try.ntmps24, List.size_toArray, List.length_cons, List.length_nil, Nat.reduceAdd, Nat.reduceSub, Array.replicate_succ, Array.replicate_zero, List.push_toArray, List.append_toArray, List.nil_append, List.cons_append]
  refine wpIn_wide.2 ?_
  have hb := Boxed.new w 9 (.string t)
  have hb1 := hb.cell
  go_wp2_with (go_at_call 19; refine HCUT.out.mono ?_; rintro e' w' ⟨v, rfl, hps, hB⟩; have HPS := Aside0.mk hps; have HB := Aside0.mk hB; obtain ⟨Ap, cp, rfl, hcp, hCp⟩ := Kd.R_reads hps; have HCP := Aside0.mk hcp; clear hps hB hcp hCp)
  have HS0 : Aside0 (SPI t w w'.heap.size Ap ps.length cp ps 0 [] (.slice none 0 0) w') := by
    refine ⟨Marked.nil _, fun _ h => absurd h List.not_mem_nil, hb.kept ⟨HB.out.os, HB.out.tape, HB.out.output, HB.out.size, fun k hk _ => HB.out.block k hk⟩ (by simp : some w.heap.size ≠ none), ?_, ?_, ?_, ?_, Nat.le_refl _, fun p h => absurd h (by simp)⟩
    · have := HB.out.size; simp at this; omega
    · exact Kd.R_mono (Kd.R_bound (Kd.R_lower HPS.out (by simp))) (fun k h => h.2.2.1)
    · exact Kd.R_nil _ _ _ _ _
    · exact below_step ((Below.refl _ w).alloc (Nat.le_refl _) _) HB.out
  clear HCUT HPS HB hb hb1
  generalize hm : ps.length = m at HS0 ⊢
  have hm2 : (m : Int) ≤ 1000 := by have := HPN.out; omega
  have HM := Aside0.mk hm
  clear hm
  generalize w'.heap.size = n1 at HS0

  refine wp_loop (fun a W => ∃ (i : Nat) (Ds : List Nat) (v u10 u11 u12 u13 u14 u15 u29 u30 u31 u32 u33 u34 u35 u36 u37 u38 u39 u40 u41 u42 u43 u44 u45 u46 u47 u48 u49 u50 u51 u52 u53 u54 u55 u56 u57 u58 u59 u60 u61 u62 u63 u64 u65 u66 u67 u68 u69 u70 u71 u72 u73 : Value), i ≤ m ∧ Aside0 (SPI t w n1 Ap m cp ps i Ds v W) ∧ a = { tmps := #[.string t, .slice A pl.length c, .pointer (some ⟨w.heap.size, 0, none⟩), undef, .slice none 0 0, .int .i64 0, .slice Ap m cp, .int .i64 e, v, undef, u10, u11, u12, u13, u14, u15, .tuple #[.slice Ap m cp, .int .i64 e], .string t, .int .i64 (t.size : Int), .slice A pl.length c, .tuple #[.slice Ap m cp, .int .i64 e], .slice Ap m cp, .int .i64 e, .int .i64 e, .bool false, undef, .slice Ap m cp, .int .i64 (m : Int), .int .i64 (i : Int), u29, u30, u31, u32, u33, u34, u35, u36, u37, u38, u39, u40, u41, u42, u43, u44, u45, u46, u47, u48, u49, u50, u51, u52, u53, u54, u55, u56, u57, u58, u59, u60, u61, u62, u63, u64, u65, u66, u67, u68, u69, u70, u71, u72, u73, undef], defers := marks Ds }) (fun a _ => m - (intOf (a.tmps.getD 28 undef)).toNat) ?start ?round
  case start =>
    refine ⟨0, [], .slice none 0 0, _, _, _, _, _, _, _, _, _, _, _, _, _, _, _, _, _, _, _, _, _, _, _, _, _, _, _, _, _, _, _, _, _, _, _, _, _, _, _, _, _, _, _, _, _, _, _, _, _, _, _, Nat.zero_le _, HS0, rfl⟩
  case round =>
    clear HS0
    rintro _ W ⟨i, Ds, v, u10, u11, u12, u13, u14, u15, u29, u30, u31, u32, u33, u34, u35, u36, u37, u38, u39, u40, u41, u42, u43, u44, u45, u46, u47, u48, u49, u50, u51, u52, u53, u54, u55, u56, u57, u58, u59, u60, u61, u62, u63, u64, u65, u66, u67, u68, u69, u70, u71, u72, u73, hi, hS, rfl⟩
    by_cases hlt : i < m
    · have hlt2 : decide ((i : Int) < (m : Int)) = true := by simp; omega
      obtain ⟨s1, s2, s3, s4, s5, s6, s7, s8, s9⟩ := hS.out
      obtain ⟨hq1, hq2, hC⟩ := Kd.R_reads' s5
      clear hq1 hq2
      have hm := HM.out
      rw [hm] at hC
      obtain ⟨ad, rfl, hx0, hx1⟩ := at_T33 hC (i : Int) (by omega) (by omega)
      obtain ⟨p, hp⟩ : ∃ p, p = rd_T33 ps (i : Int) := ⟨_, rfl⟩
      rw [← hp] at hx0 hx1
      have hpm : p ∈ ps ∧ ps.take (i + 1) = ps.take i ++ [p] := by
        have e : p = ps[i]'(by omega) := by rw [hp]; unfold rd_T33; rw [Int.toNat_natCast, List.getD_eq_getElem?_getD, List.getElem?_eq_getElem (by omega)]; rfl
        rw [e]
        exact ⟨List.getElem_mem _, by rw [List.take_succ_eq_append_getElem (by omega)]⟩
      rw [Int.toNat_natCast] at hx0 hx1
      obtain ⟨p1, p2, p3, p4⟩ := HPI.out p hpm.1
      have hbc := s3.cell
      have hbc4 := ((((s3.alloc (.cells #[.int .i64 p.f0, .int .i64 p.f1] 33)).alloc (.cells #[.int .i64 p.f0, .string ⟨#[]⟩] 23)).alloc (.cells #[.int .i64 (-1)] 3)).alloc (.cells #[.int .i64 0] 3)).cell
      have HPM := Aside0.mk hpm
      have HS := Aside0.mk hS.out
      obtain ⟨f, g⟩ := p
      dsimp only at p1 p2 p3 p4 hx0 hx1 hbc4
      clear hp hpm hm hC s1 s2 s3 s4 s5 s6 s7 s8 s9 hS
      go_wp2_with (go_at_call 29; refine (callsIn_wide.1 (ends_in Fence.wide 8 trivial hro _ _)).mono ?_; rintro e' w' ⟨rfl, rfl⟩)
      obtain ⟨W0, hW0⟩ : ∃ W0, W0 = (((((W.alloc (.cells #[.int .i64 f, .int .i64 g] 33)).alloc (.cells #[.int .i64 f, .string ⟨#[]⟩] 23)).alloc (.cells #[.int .i64 (-1)] 3)).alloc (.cells #[.int .i64 0] 3)).alloc (.cells #[.string t] 9)) := ⟨_, rfl⟩
      have hsz : W0.heap.size = W.heap.size + 1 + 1 + 1 + 1 + 1 := by rw [hW0]; simp
      have hBW : Below W.heap.size W W0 := by
        rw [hW0]; exact (((((Below.refl _ W).alloc (Nat.le_refl _) _).alloc (by simp) _).alloc (by simp <;> omega) _).alloc (by simp <;> omega) _).alloc (by simp <;> omega) _
      have r0 : W0.heap[W.heap.size]? = some (.cells #[.int .i64 f, .int .i64 g] 33 (0, 0)) := by
        rw [hW0, Below.heap_alloc _ _ _ (by simp <;> omega), Below.heap_alloc _ _ _ (by simp <;> omega), Below.heap_alloc _ _ _ (by simp <;> omega), Below.heap_alloc _ _ _ (by simp)]; exact World.alloc_heap_new _ _
      have r1 : W0.heap[W.heap.size + 1]? = some (.cells #[.int .i64 f, .string ⟨#[]⟩] 23 (0, 0)) := by
        rw [hW0, Below.heap_alloc _ _ _ (by simp <;> omega), Below.heap_alloc _ _ _ (by simp <;> omega), Below.heap_alloc _ _ _ (by simp)]
        have := World.alloc_heap_new (W.alloc (.cells #[.int .i64 f, .int .i64 g] 33)) (.cells #[.int .i64 f, .string ⟨#[]⟩] 23)
        rwa [World.size_alloc] at this
      have r2 : Boxed W0 (W.heap.size + 1 + 1) 3 (.int .i64 (-1)) := by
        rw [hW0]; unfold Boxed; rw [Below.heap_alloc _ _ _ (by simp <;> omega), Below.heap_alloc _ _ _ (by simp)]
        have := World.alloc_heap_new ((W.alloc (.cells #[.int .i64 f, .int .i64 g] 33)).alloc (.cells #[.int .i64 f, .string ⟨#[]⟩] 23)) (.cells #[.int .i64 (-1)] 3)
        rwa [World.size_alloc, World.size_alloc] at this
      have r3 : Boxed W0 (W.heap.size + 1 + 1 + 1) 3 (.int .i64 0) := by
        rw [hW0]; unfold Boxed; rw [Below.heap_alloc _ _ _ (by simp)]
        have := World.alloc_heap_new (((W.alloc (.cells #[.int .i64 f, .int .i64 g] 33)).alloc (.cells #[.int .i64 f, .string ⟨#[]⟩] 23)).alloc (.cells #[.int .i64 (-1)] 3)) (.cells #[.int .i64 0] 3)
        rwa [World.size_alloc, World.size_alloc, World.size_alloc] at this
      have r4 : Boxed W0 (W.heap.size + 1 + 1 + 1 + 1) 9 (.string t) := by
        rw [hW0]
        have := Boxed.new ((((W.alloc (.cells #[.int .i64 f, .int .i64 g] 33)).alloc (.cells #[.int .i64 f, .string ⟨#[]⟩] 23)).alloc (.cells #[.int .i64 (-1)] 3)).alloc (.cells #[.int .i64 0] 3)) 9 (.string t)
        rwa [World.size_alloc, World.size_alloc, World.size_alloc, World.size_alloc] at this
      rw [← hW0]
      have HS2 := Aside0.mk hBW
      have R0 := Aside0.mk r0
      have R1 := Aside0.mk r1
      have hbt := HS.out.2.2.1
      clear hx0 hx1 hbc hbc4 hW0
      refine (wpIn_wide (n := 9)).1 ?_
      refine wpIn_rangeFunc_ownG hro (by decide) (gf := 31) (lb := #[.pointer (some ⟨W.heap.size + 1 + 1 + 1 + 1, 0, none⟩)]) rfl trivial (enters_of Try.func31 (by kernel_rfl) rfl)
        (ends_stops Fence.wide 8 trivial hro (by decide) (W.heap.size + 1 + 1 + 1 + 1) t (by omega) W0 r4) EK.t EK.b (Below.refl _ _) (fun _ => rfl)
        (fun pre X => (Boxed X (W.heap.size + 1 + 1) 3 (.int .i64 (flP t f g (pre.map Subtype.val)).1) ∧ Boxed X (W.heap.size + 1 + 1 + 1) 3 (.int .i64 (flP t f g (pre.map Subtype.val)).2)) ∧ But2 (W.heap.size + 1 + 1) W0 X)
        (fun _ _ _ => False)
        (OwnFrom.and (OwnFrom.and ((boxed_own _ _ _).from _) ((boxed_own _ _ _).from _)) (but2_own _ _))
        (fun _ _ _ _ _ hs _ _ => hs)
        ⟨⟨r2, r3⟩, But2.refl _ _⟩
        (fun x => { tmps := #[.string t, .slice A pl.length c, .pointer (some ⟨w.heap.size, 0, none⟩), undef, .slice none 0 0, .int .i64 0, .slice (some ad) m cp, .int .i64 e, v, undef, .pointer (some ⟨W.heap.size, 0, none⟩), .pointer (some ⟨W.heap.size + 1, 0, none⟩), .pointer (some ⟨W.heap.size + 1 + 1, 0, none⟩), .pointer (some ⟨W.heap.size + 1 + 1 + 1, 0, none⟩), .int .i64 (x.1.1 : Int), .int .i64 (x.1.2 : Int), .tuple #[.slice (some ad) m cp, .int .i64 e], .string t, .int .i64 (t.size : Int), .slice A pl.length c, .tuple #[.slice (some ad) m cp, .int .i64 e], .slice (some ad) m cp, .int .i64 e, .int .i64 e, .bool false, undef, .slice (some ad) m cp, .int .i64 (m : Int), .int .i64 (i : Int), .bool true, .pointer (some (ad.add (i * 2))), .agg #[.int .i64 f, .int .i64 g], .pointer (some ⟨W.heap.size, 0, none⟩), .int .i64 f, .agg #[.int .i64 f, .string ⟨#[]⟩], .string t, .func (.func 31) #[] #[.pointer (some ⟨W.heap.size + 1 + 1 + 1 + 1, 0, none⟩)], .int .i64 (x.1.1 : Int), .int .i64 (x.1.2 : Int), u39, u40, u41, u42, u43, u44, u45, u46, u47, u48, u49, u50, u51, u52, u53, u54, u55, u56, u57, u58, u59, u60, u61, u62, u63, u64, u65, u66, u67, u68, u69, u70, u71, u72, u73, undef], defers := [] }) ?assign ?body ?done ?stop
      case assign =>
        intro l x X K hK
        dsimp only [lnV]
        gi_wp2
        exact hK
      case body =>
        rintro l pre x X ⟨⟨hb12, hb13⟩, hk⟩ hlen
        have hx2 := x.2
        have hhit := flP_hit (t := t) (a := f) (b := g) (pre.map Subtype.val) x.1
        have hmiss := flP_miss (t := t) (a := f) (b := g) (pre.map Subtype.val) x.1
        have hin := flP_in t f g (pre.map Subtype.val) (fun p hp => by obtain ⟨y, _, rfl⟩ := List.mem_map.1 hp; exact y.2)
        rw [← List.map_singleton (f := Subtype.val), ← List.map_append] at hhit hmiss
        generalize flP t f g (pre.map Subtype.val) = q at hb12 hb13 hhit hmiss hin
        have hr0 := (hk.2.2.2.2 W.heap.size (by omega) (by omega) (by omega)).trans R0.out
        have hx0 : X.cell? ⟨W.heap.size, 0, none⟩ = some (.int .i64 f) := by rw [cell_of_row _ _ _ _ _ _ hr0]; rfl
        have hx1 : X.cell? ⟨W.heap.size, 1, none⟩ = some (.int .i64 g) := by rw [cell_of_row _ _ _ _ _ _ hr0]; rfl
        have hbx : Boxed X w.heap.size 9 (.string t) := (hk.2.2.2.2 w.heap.size (by have := hbt.lt; omega) (by have := hbt.lt; omega) (by have := hbt.lt; omega)).trans ((HS2.out.block _ hbt.lt).trans hbt)
        have hbc := hbx.cell
        have hc12 := hb12.cell
        have hc13 := hb13.cell
        obtain ⟨⟨x1, x2⟩, hxx⟩ := x
        dsimp only at hx2 hhit hmiss ⊢
        obtain ⟨hx1', hx2'⟩ := hx2
        have i1 : (x1 : Int) ≤ (x2 : Int) := by omega
        have i2 : (x2 : Int) ≤ (t.size : Int) := by omega
        obtain ⟨q1, q2⟩ := q
        dsimp only at hin hc12 hc13 hb12 hb13 hhit
        obtain ⟨j1, j2, j3, j4⟩ := hin
        have HB12 := Aside0.mk hb12
        have HB13 := Aside0.mk hb13
        have HK := Aside0.mk hk
        have HHIT := Aside0.mk hhit
        have HMISS := Aside0.mk hmiss
        have hbl := hbt.lt
        have hx12 := hb12.set (.int .i64 (x1 : Int))
        have hx13 := hb13.other (B' := W.heap.size + 1 + 1) (by omega) (.int .i64 (x1 : Int))
        have hxc := (hbx.other (B' := W.heap.size + 1 + 1) (by omega) (.int .i64 (x1 : Int))).cell
        have hxc13 := hx13.cell
        have hf12 := hb12.frozen
        have hf13 := hb13.frozen
        have hxf13 := hx13.frozen
        have HX12 := Aside0.mk hx12
        have HX13 := Aside0.mk hx13
        clear hx12 hx13 hbl
        clear hb12 hb13 hk hhit hmiss hr0 hbx hlen hbt r0 r1 r2 r3 r4
        rcases (show (x1 : Int) < f ∨ (f ≤ (x1 : Int) ∧ g ≤ (x1 : Int)) ∨ (f ≤ (x1 : Int) ∧ (x1 : Int) < g) by omega) with g1 | ⟨g1, g2⟩ | ⟨g1, g2⟩
        · gi_wp2
          refine ⟨KeepsFrom.refl _ _, EK.refl _ _ _, ⟨?_, ?_⟩, HK.out⟩
          · rw [HMISS.out (by omega)]; exact HB12.out
          · rw [HMISS.out (by omega)]; exact HB13.out
        · gi_wp2
          refine ⟨KeepsFrom.refl _ _, EK.refl _ _ _, ⟨?_, ?_⟩, HK.out⟩
          · rw [HMISS.out (by omega)]; exact HB12.out
          · rw [HMISS.out (by omega)]; exact HB13.out
        · have hmin : (if (x2 : Int) + 1 ≤ (t.size : Int) then (x2 : Int) + 1 else (t.size : Int)) = min ((x2 : Int) + 1) (t.size : Int) := by split <;> omega
          rcases (show q1 < 0 ∨ 0 ≤ q1 by omega) with g3 | g3
          · gi_wp2
            all_goals
              refine ⟨((KeepsOthers.setCell _ _ _).trans (KeepsOthers.setCell _ _ _)).from _, ⟨fun hb => (hb.other (by omega) _).other (by omega) _, ((KeepsOthers.setCell _ _ _).trans (KeepsOthers.setCell _ _ _)).walks⟩, ⟨?_, ?_⟩, (HK.out.set _ (.inl rfl) _).set _ (.inr rfl) _⟩
              · rw [HHIT.out g1 g2]; unfold flS; dsimp only; rw [if_pos g3]; exact HX12.out.other (by omega) _
              · rw [HHIT.out g1 g2]; unfold flS; dsimp only; first | (rw [if_pos (by omega)]; exact HX13.out.set _) | (rw [if_neg (by omega)]; exact HX13.out.set _)
          · gi_wp2
            all_goals
              refine ⟨(KeepsOthers.setCell _ _ _).from _, ⟨fun hb => hb.other (by omega) _, (KeepsOthers.setCell _ _ _).walks⟩, ⟨?_, ?_⟩, HK.out.set _ (.inr rfl) _⟩
              · rw [HHIT.out g1 g2]; unfold flS; dsimp only; rw [if_neg (by omega)]; exact HB12.out.other (by omega) _
              · rw [HHIT.out g1 g2]; unfold flS; dsimp only; first | (rw [if_pos (by omega)]; exact HB13.out.set _) | (rw [if_neg (by omega)]; exact HB13.out.set _)
      case done =>
        rintro D ys X hD hys ⟨⟨hb12, hb13⟩, hk⟩ hK
        rw [hys] at hb12 hb13
        have hin := flP_in t f g (lns t) (lns_in t)
        have hrise := flP_rise t f g
        obtain ⟨q, hq⟩ : ∃ q, q = flP t f g (lns t) := ⟨_, rfl⟩
        rw [← hq] at hb12 hb13 hin hrise
        obtain ⟨q1, q2⟩ := q
        dsimp only at hb12 hb13 hin hrise
        obtain ⟨j1, j2, j3, j4⟩ := hin
        have hr1 := (hk.2.2.2.2 (W.heap.size + 1) (by omega) (by omega) (by omega)).trans R1.out
        have hx0 : X.cell? ⟨W.heap.size + 1, 0, none⟩ = some (.int .i64 f) := by rw [cell_of_row _ _ _ _ _ _ hr1]; rfl
        have hx1 : X.cell? ⟨W.heap.size + 1, 1, none⟩ = some (.string ⟨#[]⟩) := by rw [cell_of_row _ _ _ _ _ _ hr1]; rfl
        have hf0 : X.frozen? ⟨W.heap.size + 1, 0, none⟩ = false := frozen_of_row _ _ _ _ _ hr1
        have hf1 : X.frozen? ⟨W.heap.size + 1, 1, none⟩ = false := frozen_of_row _ _ _ _ _ hr1
        have hbl := hbt.lt
        have hbx : Boxed X w.heap.size 9 (.string t) := (hk.2.2.2.2 w.heap.size (by omega) (by omega) (by omega)).trans ((HS2.out.block _ hbt.lt).trans hbt)
        have hbc := hbx.cell
        have hc12 := hb12.cell
        have hc13 := hb13.cell
        have HB := Aside0.mk hk
        have HD := Aside0.mk hD
        have HDK := Aside0.mk hK
        have HQ := Aside0.mk hq
        clear hb12 hb13 hk hys hr1 hbl hbx hK hD hq
        rcases (show q1 < 0 ∨ 0 ≤ q1 by omega) with g3 | g3
        · have HADD := Aside0.mk (SPI.add (f := f) (g := g) (x := ⟨f, ⟨#[]⟩⟩) HS.out HPM.out (HS2.out.trans (HB.out.below (by omega) (by omega))) HDK.out (by have := HD.out; omega) (by unfold splitOf; dsimp only; rw [← HQ.out]; dsimp only; rw [if_neg (by omega)]) (by show 0 ≤ 65536; omega) HPN.out)
          go_wp2_with (first | ((with_reducible refine gate_builtin (b := .append) (xs := #[.tmp 69, .tmp 71]) rfl ?_); at_builtin; refine Kd.R_append k23 (w0 := w) w.heap.size rfl (.tmp 69) (.tmp 71) 50 23 (.agg #[.int .i64 0, .string ⟨#[]⟩]) 24 rfl Try.underlying50 info23 rfl (by decide) (by omega) v ((ps.take i).map (splitOf t)) ⟨f, ⟨#[]⟩⟩ [.int .i64 f, .string ⟨#[]⟩] (fun k => n1 ≤ k) (fun _ => False) rfl rfl (k23_mkM _ _ _ _) (fun _ hk => hk.elim) (fun k hk => HADD.out.1 k hk) HADD.out.2.1 HADD.out.2.2.1 HADD.out.2.2.2.1 (HADD.out.2.2.2.2.1) ?_; intro v1 w1 ho hbw hg hat; have HR := Aside0.mk (HADD.out.2.2.2.2.2 v1 w1 ho hbw hg); clear ho hbw hg hat HADD))
          refine ⟨⟨i + 1, D :: Ds, v1, _, _, _, _, _, _, _, _, _, _, _, _, _, _, _, _, _, _, _, _, _, _, _, _, _, _, _, _, _, _, _, _, _, _, _, _, _, _, _, _, _, _, _, _, _, _, _, _, _, _, _, by omega, HR, rfl⟩, by simp [intOf]; omega⟩
        · have g4 := hrise g3
          clear hrise
          obtain ⟨a, rfl⟩ := Int.eq_ofNat_of_zero_le g3
          obtain ⟨b, rfl⟩ := Int.eq_ofNat_of_zero_le j3
          have hspl : splitOf t ⟨f, g⟩ = ⟨(a : Int), t.extract a b⟩ := by
            unfold splitOf
            dsimp only
            rw [← HQ.out]
            dsimp only
            rw [if_pos g3, Int.toNat_natCast, Int.toNat_natCast]
          have hexs : (t.extract a b).size = b - a := by rw [ByteArray.size_extract]; omega
          have HBX := Aside0.mk (show Below W.heap.size W ((X.setCell ⟨W.heap.size + 1, 0, none⟩ (.int .i64 (a : Int))).setCell ⟨W.heap.size + 1, 1, none⟩ (.string (t.extract a b))).drew from
            below_drew (((HS2.out.trans (HB.out.below (by omega) (by omega))).setCell (p := ⟨W.heap.size + 1, 0, none⟩) (by show W.heap.size ≤ W.heap.size + 1; omega) _).setCell (p := ⟨W.heap.size + 1, 1, none⟩) (by show W.heap.size ≤ W.heap.size + 1; omega) _))
          have HDX := Aside0.mk (show ((X.setCell ⟨W.heap.size + 1, 0, none⟩ (.int .i64 (a : Int))).setCell ⟨W.heap.size + 1, 1, none⟩ (.string (t.extract a b))).drew.heap[D]? = some (.deferred (some [])) from
            (Below.heap_setCell _ _ _ D (by have := HD.out; show D ≠ W.heap.size + 1; omega)).trans ((Below.heap_setCell _ _ _ D (by have := HD.out; show D ≠ W.heap.size + 1; omega)).trans HDK.out))
          have HSPL := Aside0.mk hspl
          have HEXS := Aside0.mk hexs
          clear hspl hexs
          by_cases hbig : 65536 < b - a
          · have hbig2 : (65536 : Int) < ((min b t.size - a : Nat) : Int) := by omega
            go_wp2
            go_region
            all_goals go_wp2
            have hL := HS.out.long HPM.out.1 HBX.out HDX.out (by have := HD.out; omega) (by rw [HSPL.out]; show 65536 < (t.extract a b).size; rw [HEXS.out]; exact hbig)
            refine leaves_marks (D :: Ds) _ hL.1 fun W' hSh => ?_
            refine ⟨_, results_tmp2 rfl _ _ _, .slice none 0 0, ?_, ?_, hL.2.2 W' hSh⟩
            · rw [hL.2.1]; rfl
            · rw [hL.2.1]; exact Kd.R_nil _ _ _ _ _
          · have hbig2 : ((min b t.size - a : Nat) : Int) ≤ (65536 : Int) := by omega
            go_wp2
            rename_i K2 hK2
            have HK2 := Aside0.mk hK2
            clear hK2
            go_region
            refine HK2.out _ _ ?_
            clear HK2
            have hy0 : ((X.setCell ⟨W.heap.size + 1, 0, none⟩ (.int .i64 (a : Int))).setCell ⟨W.heap.size + 1, 1, none⟩ (.string (t.extract a b))).drew.cell? ⟨W.heap.size + 1, 0, none⟩ = some (.int .i64 (a : Int)) := by go_simp
            have hy1 : ((X.setCell ⟨W.heap.size + 1, 0, none⟩ (.int .i64 (a : Int))).setCell ⟨W.heap.size + 1, 1, none⟩ (.string (t.extract a b))).drew.cell? ⟨W.heap.size + 1, 1, none⟩ = some (.string (t.extract a b)) := by go_simp
            generalize ((X.setCell ⟨W.heap.size + 1, 0, none⟩ (.int .i64 (a : Int))).setCell ⟨W.heap.size + 1, 1, none⟩ (.string (t.extract a b))).drew = Y at HBX HDX hy0 hy1 ⊢
            have HADD := Aside0.mk (HS.out.add (f := f) (g := g) (x := ⟨(a : Int), t.extract a b⟩) HPM.out HBX.out HDX.out (by have := HD.out; omega) HSPL.out (by show (t.extract a b).size ≤ 65536; rw [HEXS.out]; omega) HPN.out)
            clear hx0 hx1 hf0 hf1 hc12 hc13
            go_wp2_with (first | ((with_reducible refine gate_builtin (b := .append) (xs := #[.tmp 69, .tmp 71]) rfl ?_); at_builtin; refine Kd.R_append k23 (w0 := w) w.heap.size rfl (.tmp 69) (.tmp 71) 50 23 (.agg #[.int .i64 0, .string ⟨#[]⟩]) 24 rfl Try.underlying50 info23 rfl (by decide) (by omega) v ((ps.take i).map (splitOf t)) ⟨(a : Int), t.extract a b⟩ [.int .i64 (a : Int), .string (t.extract a b)] (fun k => n1 ≤ k) (fun _ => False) rfl rfl (k23_mkM _ _ _ _) (fun _ hk => hk.elim) (fun k hk => HADD.out.1 k hk) HADD.out.2.1 HADD.out.2.2.1 HADD.out.2.2.2.1 (HADD.out.2.2.2.2.1) ?_; intro v1 w1 ho hbw hg hat; have HR := Aside0.mk (HADD.out.2.2.2.2.2 v1 w1 ho hbw hg); clear ho hbw hg hat HADD))
            refine ⟨⟨i + 1, D :: Ds, v1, _, _, _, _, _, _, _, _, _, _, _, _, _, _, _, _, _, _, _, _, _, _, _, _, _, _, _, _, _, _, _, _, _, _, _, _, _, _, _, _, _, _, _, _, _, _, _, _, _, _, _, by omega, HR, rfl⟩, by simp [intOf]; omega⟩
      case stop =>
        rintro D c pre X _ _ h _
        exact h.elim
    · obtain rfl : i = m := by omega
      have hm := HM.out
      obtain ⟨s1, s2, s3, s4, s5, s6, s7, s8, s9⟩ := hS.out
      have HS := Aside0.mk hS.out
      clear hm s1 s2 s3 s4 s5 s6 s7 s8 s9 hS
      go_wp2
      rw [← HM.out] at HS
      have hA := HS.out.all
      refine leaves_marks Ds _ HS.out.1 fun W' hSh => ?_
      refine ⟨_, results_tmp2 rfl _ _ _, v, ?_, ?_, (hA.2 W' hSh).2⟩
      · rw [hA.1]; rfl
      · rw [hA.1]; exact (hA.2 W' hSh).1
end Go.Proofs.Ytbcggfjfgoabpaa.P

end
section
-- Written by a program of this session (wip/tools/hprint.py, over the kit's printer), not by hand. Lean checks it.
namespace Go.Proofs.Ytbcggfjfgoabpaa.P
open Go.RowKit Go.Proofs.YtbcggfjfgoabpaaW.PrintWords Go.Proofs.YtbcggfjfgoabpaaW.PrintLast Go.Proofs.YtbcggfjfgoabpaaW.PrintMore
attribute [local go_sem] max2_int min2_int max_two min_two max_three min_three max_four min_four
set_option linter.unusedVariables false
set_option linter.unusedSimpArgs false

/-! ### winnowref13_Cut: function 20 -/
mutual
def winnowref13_Cut.j0 : Nat → Int → List Int → Bool → Option ((List (S33)) × Int)
  | 0, _, _, _ => none
  | k + 1, x0, x1, x20 => if x20 = true then (some (([] : List (S33)), 2)) else (if x0 < 0 then (some (([] : List (S33)), 3)) else (winnowref13_Cut.l0 k x0 x1 ([] : List Int) 0))
def winnowref13_Cut.l0 : Nat → Int → List Int → List Int → Int → Option ((List (S33)) × Int)
  | 0, _, _, _, _ => none
  | k + 1, x0, x1, x6, x7 => if x7 < (x1.length : Int) then (if 0 ≤ x7 then (if (wrap64 (x0 + 1)) = 0 then (none) else (if (Int.tmod (rd x1 x7) (wrap64 (x0 + 1))) < 0 then (winnowref13_Cut.j2 k x0 x1 x6 x7 (wrap64 ((wrap64 ((Int.tmod (rd x1 x7) (wrap64 (x0 + 1))) + x0)) + 1))) else (winnowref13_Cut.j2 k x0 x1 x6 x7 (Int.tmod (rd x1 x7) (wrap64 (x0 + 1)))))) else (none)) else (winnowref13_Cut.l2 k x0 x6 ([] : List (S33)) 0 0)
def winnowref13_Cut.j2 : Nat → Int → List Int → List Int → Int → Int → Option ((List (S33)) × Int)
  | 0, _, _, _, _, _ => none
  | k + 1, x0, x1, x6, x7, x8 => winnowref13_Cut.l1 k x0 x1 x6 x7 x8 (x6.length : Int)
def winnowref13_Cut.l1 : Nat → Int → List Int → List Int → Int → Int → Int → Option ((List (S33)) × Int)
  | 0, _, _, _, _, _, _ => none
  | k + 1, x0, x1, x6, x7, x8, x9 => if x9 > 0 then (if 0 ≤ (wrap64 (x9 - 1)) then (if (wrap64 (x9 - 1)) < (x6.length : Int) then (if (rd x6 (wrap64 (x9 - 1))) > x8 then (winnowref13_Cut.l1 k x0 x1 x6 x7 x8 (wrap64 (x9 - 1))) else (if 0 ≤ x9 then (if x9 ≤ (x6.length : Int) then ((some (x6.take (x9 : Int).toNat : List Int)).bind fun y300 => (if ([] : List Int).length + y300.length < 17592186044416 then ((some (([] : List Int) ++ y300 : List Int)).bind fun y304 => (if y304.length < 17592186044416 then ((some (y304 ++ [x8] : List Int)).bind fun y307 => ((some (x6.drop (x9 : Int).toNat : List Int)).bind fun y310 => (if y307.length + y310.length < 17592186044416 then (winnowref13_Cut.l0 k x0 x1 (y307 ++ y310) (wrap64 (x7 + 1))) else (none)))) else (none))) else (none))) else (none)) else (none))) else (none)) else (none)) else (if 0 ≤ x9 then (if x9 ≤ (x6.length : Int) then ((some (x6.take (x9 : Int).toNat : List Int)).bind fun y317 => (if ([] : List Int).length + y317.length < 17592186044416 then ((some (([] : List Int) ++ y317 : List Int)).bind fun y321 => (if y321.length < 17592186044416 then ((some (y321 ++ [x8] : List Int)).bind fun y324 => ((some (x6.drop (x9 : Int).toNat : List Int)).bind fun y327 => (if y324.length + y327.length < 17592186044416 then (winnowref13_Cut.l0 k x0 x1 (y324 ++ y327) (wrap64 (x7 + 1))) else (none)))) else (none))) else (none))) else (none)) else (none))
def winnowref13_Cut.l2 : Nat → Int → List Int → List (S33) → Int → Int → Option ((List (S33)) × Int)
  | 0, _, _, _, _, _ => none
  | k + 1, x0, x6, x11, x12, x13 => if x13 < (x6.length : Int) then (if 0 ≤ x13 then (if x11.length < 8796093022208 then (winnowref13_Cut.l2 k x0 x6 (x11 ++ [(⟨x12, rd x6 x13⟩ : S33)]) (rd x6 x13) (wrap64 (x13 + 1))) else (none)) else (none)) else (if x11.length < 8796093022208 then (some ((x11 ++ [(⟨x12, x0⟩ : S33)]), 0)) else (none))
end
def winnowref13_Cut.f (k : Nat) (a0 : Int) (l1 : List Int) : Option ((List (S33)) × Int) := if a0 > 4194304 then (winnowref13_Cut.j0 k a0 l1 true) else (winnowref13_Cut.j0 k a0 l1 (decide ((l1.length : Int) ≥ 256)))
theorem winnowref13_Cut.mono_l : ∀ k, (∀ y0 y1 y2, LeO (winnowref13_Cut.j0 k y0 y1 y2) (winnowref13_Cut.j0 (k + 1) y0 y1 y2)) ∧ (∀ y0 y1 y2 y3, LeO (winnowref13_Cut.l0 k y0 y1 y2 y3) (winnowref13_Cut.l0 (k + 1) y0 y1 y2 y3)) ∧ (∀ y0 y1 y2 y3 y4, LeO (winnowref13_Cut.j2 k y0 y1 y2 y3 y4) (winnowref13_Cut.j2 (k + 1) y0 y1 y2 y3 y4)) ∧ (∀ y0 y1 y2 y3 y4 y5, LeO (winnowref13_Cut.l1 k y0 y1 y2 y3 y4 y5) (winnowref13_Cut.l1 (k + 1) y0 y1 y2 y3 y4 y5)) ∧ (∀ y0 y1 y2 y3 y4, LeO (winnowref13_Cut.l2 k y0 y1 y2 y3 y4) (winnowref13_Cut.l2 (k + 1) y0 y1 y2 y3 y4))
  | 0 => ⟨fun _ _ _ r h => by simp [winnowref13_Cut.j0] at h, fun _ _ _ _ r h => by simp [winnowref13_Cut.l0] at h, fun _ _ _ _ _ r h => by simp [winnowref13_Cut.j2] at h, fun _ _ _ _ _ _ r h => by simp [winnowref13_Cut.l1] at h, fun _ _ _ _ _ r h => by simp [winnowref13_Cut.l2] at h⟩
  | k + 1 => by
    obtain ⟨ih0, ih1, ih2, ih3, ih4⟩ := winnowref13_Cut.mono_l k
    refine ⟨?_, ?_, ?_, ?_, ?_⟩
    · intro y0 y1 y2
      unfold winnowref13_Cut.j0
      repeat' first
      | (with_reducible exact ih0 _ _ _)
      | (with_reducible exact ih1 _ _ _ _)
      | (with_reducible exact ih2 _ _ _ _ _)
      | (with_reducible exact ih3 _ _ _ _ _ _)
      | (with_reducible exact ih4 _ _ _ _ _)
      | (with_reducible exact LeO.refl _)
      | (with_reducible exact LeO.none _)
      | (with_reducible refine LeO.ite ?_ ?_)
      | (with_reducible refine LeO.bind ?_ (fun _ => ?_))
      | exact ih0 _ _ _
      | exact ih1 _ _ _ _
      | exact ih2 _ _ _ _ _
      | exact ih3 _ _ _ _ _ _
      | exact ih4 _ _ _ _ _
      | exact LeO.none _
      | refine LeO.ite ?_ ?_
      | refine LeO.bind ?_ (fun _ => ?_)
    · intro y0 y1 y2 y3
      unfold winnowref13_Cut.l0
      repeat' first
      | (with_reducible exact ih0 _ _ _)
      | (with_reducible exact ih1 _ _ _ _)
      | (with_reducible exact ih2 _ _ _ _ _)
      | (with_reducible exact ih3 _ _ _ _ _ _)
      | (with_reducible exact ih4 _ _ _ _ _)
      | (with_reducible exact LeO.refl _)
      | (with_reducible exact LeO.none _)
      | (with_reducible refine LeO.ite ?_ ?_)
      | (with_reducible refine LeO.bind ?_ (fun _ => ?_))
      | exact ih0 _ _ _
      | exact ih1 _ _ _ _
      | exact ih2 _ _ _ _ _
      | exact ih3 _ _ _ _ _ _
      | exact ih4 _ _ _ _ _
      | exact LeO.none _
      | refine LeO.ite ?_ ?_
      | refine LeO.bind ?_ (fun _ => ?_)
    · intro y0 y1 y2 y3 y4
      unfold winnowref13_Cut.j2
      repeat' first
      | (with_reducible exact ih0 _ _ _)
      | (with_reducible exact ih1 _ _ _ _)
      | (with_reducible exact ih2 _ _ _ _ _)
      | (with_reducible exact ih3 _ _ _ _ _ _)
      | (with_reducible exact ih4 _ _ _ _ _)
      | (with_reducible exact LeO.refl _)
      | (with_reducible exact LeO.none _)
      | (with_reducible refine LeO.ite ?_ ?_)
      | (with_reducible refine LeO.bind ?_ (fun _ => ?_))
      | exact ih0 _ _ _
      | exact ih1 _ _ _ _
      | exact ih2 _ _ _ _ _
      | exact ih3 _ _ _ _ _ _
      | exact ih4 _ _ _ _ _
      | exact LeO.none _
      | refine LeO.ite ?_ ?_
      | refine LeO.bind ?_ (fun _ => ?_)
    · intro y0 y1 y2 y3 y4 y5
      unfold winnowref13_Cut.l1
      repeat' first
      | (with_reducible exact ih0 _ _ _)
      | (with_reducible exact ih1 _ _ _ _)
      | (with_reducible exact ih2 _ _ _ _ _)
      | (with_reducible exact ih3 _ _ _ _ _ _)
      | (with_reducible exact ih4 _ _ _ _ _)
      | (with_reducible exact LeO.refl _)
      | (with_reducible exact LeO.none _)
      | (with_reducible refine LeO.ite ?_ ?_)
      | (with_reducible refine LeO.bind ?_ (fun _ => ?_))
      | exact ih0 _ _ _
      | exact ih1 _ _ _ _
      | exact ih2 _ _ _ _ _
      | exact ih3 _ _ _ _ _ _
      | exact ih4 _ _ _ _ _
      | exact LeO.none _
      | refine LeO.ite ?_ ?_
      | refine LeO.bind ?_ (fun _ => ?_)
    · intro y0 y1 y2 y3 y4
      unfold winnowref13_Cut.l2
      repeat' first
      | (with_reducible exact ih0 _ _ _)
      | (with_reducible exact ih1 _ _ _ _)
      | (with_reducible exact ih2 _ _ _ _ _)
      | (with_reducible exact ih3 _ _ _ _ _ _)
      | (with_reducible exact ih4 _ _ _ _ _)
      | (with_reducible exact LeO.refl _)
      | (with_reducible exact LeO.none _)
      | (with_reducible refine LeO.ite ?_ ?_)
      | (with_reducible refine LeO.bind ?_ (fun _ => ?_))
      | exact ih0 _ _ _
      | exact ih1 _ _ _ _
      | exact ih2 _ _ _ _ _
      | exact ih3 _ _ _ _ _ _
      | exact ih4 _ _ _ _ _
      | exact LeO.none _
      | refine LeO.ite ?_ ?_
      | refine LeO.bind ?_ (fun _ => ?_)
theorem winnowref13_Cut.mono : ∀ a0 a1 k, LeO (winnowref13_Cut.f k a0 a1) (winnowref13_Cut.f (k + 1) a0 a1) := by
  intro a0 a1 k
  obtain ⟨ih0, ih1, ih2, ih3, ih4⟩ := winnowref13_Cut.mono_l k
  unfold winnowref13_Cut.f
  repeat' first
      | (with_reducible exact ih0 _ _ _)
      | (with_reducible exact ih1 _ _ _ _)
      | (with_reducible exact ih2 _ _ _ _ _)
      | (with_reducible exact ih3 _ _ _ _ _ _)
      | (with_reducible exact ih4 _ _ _ _ _)
      | (with_reducible exact LeO.refl _)
      | (with_reducible exact LeO.none _)
      | (with_reducible refine LeO.ite ?_ ?_)
      | (with_reducible refine LeO.bind ?_ (fun _ => ?_))
      | exact ih0 _ _ _
      | exact ih1 _ _ _ _
      | exact ih2 _ _ _ _ _
      | exact ih3 _ _ _ _ _ _
      | exact ih4 _ _ _ _ _
      | exact LeO.none _
      | refine LeO.ite ?_ ?_
      | refine LeO.bind ?_ (fun _ => ?_)
set_option maxHeartbeats 8000000 in
set_option maxRecDepth 100000 in
theorem winnowref13_Cut.calls (k : Nat) (a0 : Int) (A1 : Option Addr) (c1 : Nat) (l1 : List Int) (r1 : List (S33)) (r2 : Int) (w : World) (hr1 : Kd.C (Kd.int .i64) w A1 l1.length l1) (hc1 : l1.length ≤ c1) (h : winnowref13_Cut.f k a0 l1 = some (r1, r2)) :
    Calls Try.prog 20 #[.int .i64 a0, .slice A1 l1.length c1] w fun e w' => ∃ v0_ : Value, e = .returned (.tuple #[v0_, .int .i64 r2]) ∧ Kd.R k33 33 w' w.heap.size (fun _ => True) v0_ r1 ∧ Below w.heap.size w w' := by
  have hu33 := Try.underlying33
  have HR1 := Aside0.mk hr1
  have HC1 := Aside0.mk hc1
  clear hr1 hc1
  have HB := Aside0.mk (Below.refl w.heap.size w)
  have H : (if a0 > 4194304 then (winnowref13_Cut.j0 k a0 l1 true) else (winnowref13_Cut.j0 k a0 l1 (decide ((l1.length : Int) ≥ 256)))) = some (r1, r2) := h
  clear h
  have HC3 := Aside0.mk H
  clear H
  go_enter Try.func20, Try.ntmps20
  go_upto_region 1 with (fail)
  go_cut [20] (fun v20 wc => ∃ (kq : Nat) (x20_2 : Bool), v20 = .bool x20_2 ∧ Aside0 (winnowref13_Cut.j0 kq a0 l1 x20_2 = some (r1, r2)) ∧ Aside0 (kq ≤ k) ∧ Aside0 (Below w.heap.size w wc))
  case first =>
    have H := HC3.out
    clear HC3
    by_cases c4 : a0 > 4194304
    · rw [if_pos c4] at H
      have c4b0 : decide (4194304 < a0) = true := decide_eq_true c4
      clear c4
      (first | rw [c4b0] | (simp only [i64_w, i32_w]; rw [c4b0]) | skip)
      have H' := Aside0.mk H
      clear H
      go_wp2
      go_meet
      case rel => exact ⟨_, (true), (by first | rfl | (simp; done) | (simp [*]; done)), H', ⟨by first | omega | exact Nat.le_refl _⟩, ⟨by repeat (first | (with_reducible first | exact HB.out | apply below_alloc | apply pw_below_drewN | apply below_drew1) | exact HB.out)⟩⟩
    · rw [if_neg c4] at H
      have c4b0 : decide (4194304 < a0) = false := decide_eq_false c4
      clear c4
      (first | rw [c4b0] | (simp only [i64_w, i32_w]; rw [c4b0]) | skip)
      have H' := Aside0.mk H
      clear H
      go_wp2
      go_meet
      case rel => exact ⟨_, (decide ((l1.length : Int) ≥ 256)), (by first | rfl | (simp; done) | (simp [*]; done)), H', ⟨by first | omega | exact Nat.le_refl _⟩, ⟨by repeat (first | (with_reducible first | exact HB.out | apply below_alloc | apply pw_below_drewN | apply below_drew1) | exact HB.out)⟩⟩
  case rest =>
    clear HC3
    try clear c1
    try clear c2
    try clear p2
    try clear c4
    try clear c4b0
    obtain ⟨kq, x20_2, rfl, HA, HJ2, HB⟩ := hcut
    cases kq with
    | zero => exact absurd HA.out (by simp [winnowref13_Cut.j0])
    | succ kj2 =>
      have H := HA.out
      clear HA
      simp only [winnowref13_Cut.j0] at H
      by_cases c5 : x20_2 = true
      · subst c5
        have H1 : (some (([] : List (S33)), 2)) = some (r1, r2) := by rw [if_pos rfl] at H; exact H
        clear H
        have H := H1
        clear H1
        simp only [Option.some.injEq, Prod.mk.injEq] at H
        obtain ⟨rfl, rfl⟩ := H
        go_wp2
        go_ret2
        exact ⟨_, by first | rfl | (simp [errW_none, errW_some] <;> rfl) | (simp [*, errW_none, errW_some] <;> rfl), by first | exact Kd.R_nil _ _ _ _ _ | exact Kd.N_nil _ _ _ _ _ | exact Kd.V_nil _ _ _ _ _ | exact Kd.Q_nil _ _ _ _ _ | exact Kd.S_nil _ _ _ _ _, by repeat (first | (with_reducible first | exact HB.out | apply below_alloc | apply pw_below_drewN | apply below_drew1) | exact HB.out)⟩
      · replace c5 := Bool.eq_false_iff.mpr c5
        subst c5
        have H1 : (if a0 < 0 then (some (([] : List (S33)), 3)) else (winnowref13_Cut.l0 kj2 a0 l1 ([] : List Int) 0)) = some (r1, r2) := by rw [if_neg (show ¬ (false = true) by decide)] at H; exact H
        clear H
        have H := H1
        clear H1
        by_cases c6 : a0 < 0
        · rw [if_pos c6] at H
          have c6b0 : decide (a0 < 0) = true := decide_eq_true c6
          clear c6
          simp only [Option.some.injEq, Prod.mk.injEq] at H
          obtain ⟨rfl, rfl⟩ := H
          go_wp2
          go_ret2
          exact ⟨_, by first | rfl | (simp [errW_none, errW_some] <;> rfl) | (simp [*, errW_none, errW_some] <;> rfl), by first | exact Kd.R_nil _ _ _ _ _ | exact Kd.N_nil _ _ _ _ _ | exact Kd.V_nil _ _ _ _ _ | exact Kd.Q_nil _ _ _ _ _ | exact Kd.S_nil _ _ _ _ _, by repeat (first | (with_reducible first | exact HB.out | apply below_alloc | apply pw_below_drewN | apply below_drew1) | exact HB.out)⟩
        · rw [if_neg c6] at H
          have c6b0 : decide (a0 < 0) = false := decide_eq_false c6
          clear c6
          have H' := Aside0.mk H
          clear H
          go_wp2
          go_loopg [6, 7] kj2 (fun kq v6 v7 w' => ∃ (x6_2 : List Int) (x7_2 : Int), v7 = .int .i64 x7_2 ∧ Aside0 (winnowref13_Cut.l0 kq a0 l1 x6_2 x7_2 = some (r1, r2)) ∧ Aside0 (kq ≤ kj2) ∧ Aside0 (Kd.R (Kd.int .i64) 3 w' w.heap.size (fun _ => True) v6 x6_2) ∧ Aside0 (Below w.heap.size w w'))
          case atStart => exact ⟨(([] : List Int)), (0), (by first | rfl | (simp; done) | (simp [*]; done)), H', ⟨Nat.le_refl _⟩, ⟨by first | exact Kd.R_nil _ _ _ _ _ | exact Kd.N_nil _ _ _ _ _ | exact Kd.V_nil _ _ _ _ _ | exact Kd.Q_nil _ _ _ _ _ | exact Kd.S_nil _ _ _ _ _⟩, ⟨by repeat (first | (with_reducible first | exact HB.out | apply below_alloc | apply pw_below_drewN | apply below_drew1) | exact HB.out)⟩⟩
          case round =>
            clear H'
            try clear c1
            try clear c2
            try clear p2
            try clear c4
            try clear c4b0
            try clear c5
            try clear c6
            try clear c6b0
            try clear p2
            obtain ⟨x6_2, x7_2, rfl, HA, HK2, HO_6, HB⟩ := hrel
            cases gk with
            | zero => exact absurd HA.out (by simp [winnowref13_Cut.l0])
            | succ k2 =>
              have H := HA.out
              clear HA
              simp only [winnowref13_Cut.l0] at H
              by_cases c7 : x7_2 < (l1.length : Int)
              · rw [if_pos c7] at H
                have c7b0 : decide (x7_2 < (l1.length : Int)) = true := decide_eq_true c7
                clear c7
                by_cases c8 : 0 ≤ x7_2
                · rw [if_pos c8] at H
                  have c8b0 : decide (0 ≤ x7_2) = true := decide_eq_true c8
                  clear c8
                  by_cases c9 : (wrap64 (a0 + 1)) = 0
                  · rw [if_pos c9] at H
                    exact absurd H (by simp)
                  · rw [if_neg c9] at H
                    have c9b0 : ((wrap64 (a0 + 1)) == 0) = false := beq_eq_false_iff_ne.mpr c9
                    have c9b1 : ((wrap64 (a0 + 1)) != 0) = true := bne_iff_ne.mpr c9
                    have HC10 := Aside0.mk H
                    clear H
                    have p298 : 0 ≤ (x7_2 : Int) := of_decide_eq_true (by first | (with_reducible assumption) | assumption)
                    have q298 : x7_2 < (l1.length : Int) := of_decide_eq_true (by first | (with_reducible assumption) | assumption)
                    obtain ⟨ad298, e298, hx298_0⟩ := Kd.at_int HR1.out x7_2 p298 q298
                    cases e298
                    replace hx298_0 := (HB.out.cell (World.block_lt_of_cell? w _ hx298_0)).trans hx298_0
                    replace p298 := eq_true p298
                    replace q298 := eq_true q298
                    go_upto_if 37 with (fail)
                    go_cut [8] (fun v8 wc => ∃ (kq : Nat) (x8_9 : Int), v8 = .int .i64 x8_9 ∧ Aside0 (winnowref13_Cut.j2 kq a0 l1 x6_2 x7_2 x8_9 = some (r1, r2)) ∧ Aside0 (kq ≤ k2) ∧ Aside0 (Kd.R (Kd.int .i64) 3 wc w.heap.size (fun _ => True) u6 x6_2) ∧ Aside0 (Below w.heap.size w wc))
                    case first =>
                      have H := HC10.out
                      clear HC10
                      by_cases c11 : (Int.tmod (rd l1 x7_2) (wrap64 (a0 + 1))) < 0
                      · rw [if_pos c11] at H
                        have c11b0 : decide ((Int.tmod (rd l1 x7_2) (wrap64 (a0 + 1))) < 0) = true := decide_eq_true c11
                        clear c11
                        (first | rw [c11b0] | (simp only [i64_w, i32_w]; rw [c11b0]) | skip)
                        have H' := Aside0.mk H
                        clear H
                        go_wp2
                        go_meet
                        case rel => exact ⟨_, (wrap64 ((wrap64 ((Int.tmod (rd l1 x7_2) (wrap64 (a0 + 1))) + a0)) + 1)), (by first | rfl | (simp; done) | (simp [*]; done)), H', ⟨by have := HJ2.out; have := HK2.out; first | omega | exact Nat.le_refl _⟩, ⟨by (with_reducible repeat (first | apply Kd.R_alloc | apply Kd.R_drewN | apply Kd.R_drew)); exact HO_6.out⟩, ⟨by repeat (first | (with_reducible first | exact HB.out | apply below_alloc | apply pw_below_drewN | apply below_drew1) | exact HB.out)⟩⟩
                      · rw [if_neg c11] at H
                        have c11b0 : decide ((Int.tmod (rd l1 x7_2) (wrap64 (a0 + 1))) < 0) = false := decide_eq_false c11
                        clear c11
                        (first | rw [c11b0] | (simp only [i64_w, i32_w]; rw [c11b0]) | skip)
                        have H' := Aside0.mk H
                        clear H
                        go_wp2
                        go_meet
                        case rel => exact ⟨_, (Int.tmod (rd l1 x7_2) (wrap64 (a0 + 1))), (by first | rfl | (simp; done) | (simp [*]; done)), H', ⟨by have := HJ2.out; have := HK2.out; first | omega | exact Nat.le_refl _⟩, ⟨by (with_reducible repeat (first | apply Kd.R_alloc | apply Kd.R_drewN | apply Kd.R_drew)); exact HO_6.out⟩, ⟨by repeat (first | (with_reducible first | exact HB.out | apply below_alloc | apply pw_below_drewN | apply below_drew1) | exact HB.out)⟩⟩
                    case rest =>
                      clear HC10
                      try clear c1
                      try clear c2
                      try clear p2
                      try clear q2
                      try clear hx2
                      try clear c4
                      try clear c4b0
                      try clear c5
                      try clear c6
                      try clear c6b0
                      try clear p6
                      try clear c7
                      try clear c7b0
                      try clear c8
                      try clear c8b0
                      try clear c9
                      try clear c9b0
                      try clear c9b1
                      try clear c11
                      try clear c11b0
                      try clear hx298_0
                      try clear p2
                      try clear p298
                      try clear q298
                      obtain ⟨kq, x8_9, rfl, HA, HJ9, HO_6, HB⟩ := hcut
                      cases kq with
                      | zero => exact absurd HA.out (by simp [winnowref13_Cut.j2])
                      | succ kj9 =>
                        have H := HA.out
                        clear HA
                        simp only [winnowref13_Cut.j2] at H
                        have H' := Aside0.mk H
                        clear H
                        obtain ⟨Ao12, co12, eo12⟩ := Kd.R_slice HO_6.out
                        subst eo12
                        go_wp2
                        go_loopg [9] kj9 (fun kq v9 w' => ∃ (x9_4 : Int), v9 = .int .i64 x9_4 ∧ Aside0 (winnowref13_Cut.l1 kq a0 l1 x6_2 x7_2 x8_9 x9_4 = some (r1, r2)) ∧ Aside0 (kq ≤ kj9) ∧ Aside0 (Kd.R (Kd.int .i64) 3 w' w.heap.size (fun _ => True) (.slice Ao12 x6_2.length co12) x6_2) ∧ Aside0 (Below w.heap.size w w'))
                        case atStart => exact ⟨((x6_2.length : Int)), (by first | rfl | (simp; done) | (simp [*]; done)), H', ⟨Nat.le_refl _⟩, ⟨by (with_reducible repeat (first | apply Kd.R_alloc | apply Kd.R_drewN | apply Kd.R_drew)); exact HO_6.out⟩, ⟨by repeat (first | (with_reducible first | exact HB.out | apply below_alloc | apply pw_below_drewN | apply below_drew1) | exact HB.out)⟩⟩
                        case round =>
                          clear H'
                          try clear c1
                          try clear c2
                          try clear p2
                          try clear q2
                          try clear hx2
                          try clear c4
                          try clear c4b0
                          try clear c5
                          try clear c6
                          try clear c6b0
                          try clear p6
                          try clear c7
                          try clear c7b0
                          try clear c8
                          try clear c8b0
                          try clear c9
                          try clear c9b0
                          try clear c9b1
                          try clear c11
                          try clear c11b0
                          try clear hx298_0
                          try clear p2
                          try clear p298
                          try clear p6
                          try clear q2
                          try clear q298
                          obtain ⟨x9_4, rfl, HA, HK4, HO_6, HB⟩ := hrel
                          cases gk with
                          | zero => exact absurd HA.out (by simp [winnowref13_Cut.l1])
                          | succ k4 =>
                            have H := HA.out
                            clear HA
                            simp only [winnowref13_Cut.l1] at H
                            by_cases c13 : x9_4 > 0
                            · rw [if_pos c13] at H
                              have c13b0 : decide (0 < x9_4) = true := decide_eq_true c13
                              clear c13
                              obtain ⟨ji14, hji14⟩ : ∃ j_ : Int, (wrap64 (x9_4 - 1)) = j_ := ⟨_, rfl⟩
                              replace H : (if 0 ≤ (ji14) then (if (ji14) < (x6_2.length : Int) then (if (rd x6_2 (ji14)) > x8_9 then (winnowref13_Cut.l1 k4 a0 l1 x6_2 x7_2 x8_9 ji14) else (if 0 ≤ x9_4 then (if x9_4 ≤ (x6_2.length : Int) then ((some (x6_2.take (x9_4 : Int).toNat : List Int)).bind fun y300 => (if ([] : List Int).length + y300.length < 17592186044416 then ((some (([] : List Int) ++ y300 : List Int)).bind fun y304 => (if y304.length < 17592186044416 then ((some (y304 ++ [x8_9] : List Int)).bind fun y307 => ((some (x6_2.drop (x9_4 : Int).toNat : List Int)).bind fun y310 => (if y307.length + y310.length < 17592186044416 then (winnowref13_Cut.l0 k4 a0 l1 (y307 ++ y310) (wrap64 (x7_2 + 1))) else (none)))) else (none))) else (none))) else (none)) else (none))) else (none)) else (none)) = some (r1, r2) := by first | (rw [hji14] at H; exact H) | (simp only [hji14] at H ⊢; exact H)
                              have hji14w : (IntKind.i64.wrap (x9_4 - 1)) = ji14 := (i64_w _).trans hji14
                              by_cases c15 : 0 ≤ (ji14)
                              · rw [if_pos c15] at H
                                have c15b0 : decide (0 ≤ (ji14)) = true := decide_eq_true c15
                                clear c15
                                by_cases c16 : (ji14) < (x6_2.length : Int)
                                · rw [if_pos c16] at H
                                  have c16b0 : decide ((ji14) < (x6_2.length : Int)) = true := decide_eq_true c16
                                  clear c16
                                  by_cases c17 : (rd x6_2 (ji14)) > x8_9
                                  · rw [if_pos c17] at H
                                    have c17b0 : decide (x8_9 < (rd x6_2 (ji14))) = true := decide_eq_true c17
                                    clear c17
                                    have H' := Aside0.mk H
                                    clear H
                                    have p299 : 0 ≤ ((ji14) : Int) := of_decide_eq_true (by first | (with_reducible assumption) | assumption)
                                    have q299 : (ji14) < (x6_2.length : Int) := of_decide_eq_true (by first | (with_reducible assumption) | assumption)
                                    obtain ⟨ad299, e299, hx299_0⟩ := Kd.at_int (Kd.R_reads' HO_6.out).2.2 (ji14) p299 q299
                                    cases e299
                                    replace p299 := eq_true p299
                                    replace q299 := eq_true q299
                                    go_wp2
                                    go_roundg k4
                                    case measure => have := HJ2.out; have := HK2.out; have := HJ9.out; have := HK4.out; omega
                                    case rel => exact ⟨(ji14), (by first | rfl | (simp; done) | (simp only [← hji14] <;> (first | rfl | simp)) | (simp [*]; done)), H', ⟨by have := HJ2.out; have := HK2.out; have := HJ9.out; have := HK4.out; omega⟩, ⟨by (with_reducible repeat (first | apply Kd.R_alloc | apply Kd.R_drewN | apply Kd.R_drew)); exact HO_6.out⟩, ⟨by repeat (first | (with_reducible first | exact HB.out | apply below_alloc | apply pw_below_drewN | apply below_drew1) | exact HB.out)⟩⟩
                                  · rw [if_neg c17] at H
                                    have c17b0 : decide (x8_9 < (rd x6_2 (ji14))) = false := decide_eq_false c17
                                    clear c17
                                    by_cases c18 : 0 ≤ x9_4
                                    · rw [if_pos c18] at H
                                      have c18b0 := eq_true c18
                                      have c18b1 : decide (0 ≤ x9_4) = true := decide_eq_true c18
                                      clear c18
                                      by_cases c19 : x9_4 ≤ (x6_2.length : Int)
                                      · rw [if_pos c19] at H
                                        have c19b0 := eq_true c19
                                        have c19b1 : decide (x9_4 ≤ (x6_2.length : Int)) = true := decide_eq_true c19
                                        clear c19
                                        obtain ⟨y300, hy300⟩ : ∃ y_ : List Int, y_ = (x6_2.take (x9_4 : Int).toNat) := ⟨_, rfl⟩
                                        replace H : (if ([] : List Int).length + y300.length < 17592186044416 then ((some (([] : List Int) ++ y300 : List Int)).bind fun y304 => (if y304.length < 17592186044416 then ((some (y304 ++ [x8_9] : List Int)).bind fun y307 => ((some (x6_2.drop (x9_4 : Int).toNat : List Int)).bind fun y310 => (if y307.length + y310.length < 17592186044416 then (winnowref13_Cut.l0 k4 a0 l1 (y307 ++ y310) (wrap64 (x7_2 + 1))) else (none)))) else (none))) else (none)) = some (r1, r2) := by first | (rw [hy300]; with_reducible exact H) | (have H2_ := (Option.bind_some _ _).symm.trans H; rw [hy300]; with_reducible exact H2_) | (have H2_ := (Option.bind_some _ _).symm.trans H; with_reducible exact H2_) | with_reducible exact H | (rw [hy300]; exact H) | exact H
                                        have Ny300 := Aside0.mk hy300
                                        clear hy300
                                        by_cases c20 : ([] : List Int).length + y300.length < 17592186044416
                                        · rw [if_pos c20] at H
                                          have LMc20 := Aside0.mk c20
                                          clear c20
                                          obtain ⟨y304, hy304⟩ : ∃ y_ : List Int, y_ = (([] : List Int) ++ y300) := ⟨_, rfl⟩
                                          replace H : (if y304.length < 17592186044416 then ((some (y304 ++ [x8_9] : List Int)).bind fun y307 => ((some (x6_2.drop (x9_4 : Int).toNat : List Int)).bind fun y310 => (if y307.length + y310.length < 17592186044416 then (winnowref13_Cut.l0 k4 a0 l1 (y307 ++ y310) (wrap64 (x7_2 + 1))) else (none)))) else (none)) = some (r1, r2) := by first | (rw [hy304]; with_reducible exact H) | (have H2_ := (Option.bind_some _ _).symm.trans H; rw [hy304]; with_reducible exact H2_) | (have H2_ := (Option.bind_some _ _).symm.trans H; with_reducible exact H2_) | with_reducible exact H | (rw [hy304]; exact H) | exact H
                                          have Ny304 := Aside0.mk hy304
                                          clear hy304
                                          by_cases c21 : y304.length < 17592186044416
                                          · rw [if_pos c21] at H
                                            have LMc21 := Aside0.mk c21
                                            clear c21
                                            obtain ⟨y307, hy307⟩ : ∃ y_ : List Int, y_ = (y304 ++ [x8_9]) := ⟨_, rfl⟩
                                            replace H : ((some (x6_2.drop (x9_4 : Int).toNat : List Int)).bind fun y310 => (if y307.length + y310.length < 17592186044416 then (winnowref13_Cut.l0 k4 a0 l1 (y307 ++ y310) (wrap64 (x7_2 + 1))) else (none))) = some (r1, r2) := by first | (rw [hy307]; with_reducible exact H) | (have H2_ := (Option.bind_some _ _).symm.trans H; rw [hy307]; with_reducible exact H2_) | (have H2_ := (Option.bind_some _ _).symm.trans H; with_reducible exact H2_) | with_reducible exact H | (rw [hy307]; exact H) | exact H
                                            have Ny307 := Aside0.mk hy307
                                            clear hy307
                                            have c22b0 := eq_true (of_decide_eq_true (by first | (with_reducible assumption) | assumption) : 0 ≤ x9_4)
                                            have c23b0 := eq_true (of_decide_eq_true (by first | (with_reducible assumption) | assumption) : x9_4 ≤ (x6_2.length : Int))
                                            obtain ⟨y310, hy310⟩ : ∃ y_ : List Int, y_ = (x6_2.drop (x9_4 : Int).toNat) := ⟨_, rfl⟩
                                            replace H : (if y307.length + y310.length < 17592186044416 then (winnowref13_Cut.l0 k4 a0 l1 (y307 ++ y310) (wrap64 (x7_2 + 1))) else (none)) = some (r1, r2) := by first | (rw [hy310]; with_reducible exact H) | (have H2_ := (Option.bind_some _ _).symm.trans H; rw [hy310]; with_reducible exact H2_) | (have H2_ := (Option.bind_some _ _).symm.trans H; with_reducible exact H2_) | with_reducible exact H | (rw [hy310]; exact H) | exact H
                                            have Ny310 := Aside0.mk hy310
                                            clear hy310
                                            by_cases c24 : y307.length + y310.length < 17592186044416
                                            · rw [if_pos c24] at H
                                              have LMc24 := Aside0.mk c24
                                              clear c24
                                              obtain ⟨y314, hy314⟩ : ∃ y_ : List Int, y_ = (y307 ++ y310) := ⟨_, rfl⟩
                                              replace H : (winnowref13_Cut.l0 k4 a0 l1 y314 (wrap64 (x7_2 + 1))) = some (r1, r2) := by first | (rw [hy314]; with_reducible exact H) | (have H2_ := (Option.bind_some _ _).symm.trans H; rw [hy314]; with_reducible exact H2_) | (have H2_ := (Option.bind_some _ _).symm.trans H; with_reducible exact H2_) | with_reducible exact H | (rw [hy314]; exact H) | exact H
                                              have Ny314 := Aside0.mk hy314
                                              clear hy314
                                              have H' := Aside0.mk H
                                              clear H
                                              have p299 : 0 ≤ ((ji14) : Int) := of_decide_eq_true (by first | (with_reducible assumption) | assumption)
                                              have q299 : (ji14) < (x6_2.length : Int) := of_decide_eq_true (by first | (with_reducible assumption) | assumption)
                                              obtain ⟨ad299, e299, hx299_0⟩ := Kd.at_int (Kd.R_reads' HO_6.out).2.2 (ji14) p299 q299
                                              cases e299
                                              replace p299 := eq_true p299
                                              replace q299 := eq_true q299
                                              have q25 : (x9_4 : Int) ≤ ((x6_2.length : Int) : Int) := of_decide_eq_true (by first | (with_reducible assumption) | assumption)
                                              obtain ⟨i025, hi025, _, hsz25, _⟩ := info_parts info3
                                              have hroom25 : x6_2.length ≤ co12 := (Kd.R_reads' HO_6.out).2.1
                                              have hC25 : Kd.C (Kd.int .i64) _ (some ad299) x6_2.length x6_2 := (Kd.R_reads' HO_6.out).2.2
                                              have hcut25 := cut_to (P := Try.prog) 42 3 .i64 Try.underlying42 hi025 (some ad299) x6_2.length co12 x9_4 (of_decide_eq_true (by first | (with_reducible assumption) | assumption)) q25 hroom25
                                              have hr25 := Kd.C_take (m := (x9_4 : Int).toNat) hC25 (by omega)
                                              have hy25 : y300.length = (x9_4 : Int).toNat := (by rw [Ny300.out, List.length_take]; omega)
                                              rw [← Ny300.out] at hr25
                                              rw [← hy25] at hcut25
                                              have HR303 := Aside0.mk hr25
                                              have HC303 := Aside0.mk (show y300.length ≤ co12 from by omega)
                                              clear hr25 hC25 hroom25 hi025 hsz25
                                              have KY25 := Aside0.mk hy25
                                              clear hy25
                                              have KL25 := Aside0.mk (show (x9_4 : Int).toNat ≤ x6_2.length from by omega)
                                              replace q25 := eq_true q25
                                              go_wp2_with (first | ((with_reducible refine gate_builtin (b := .append) (xs := #[.tmp 57, .tmp 60]) rfl ?_); (try (refine gate_guard (by rfl) ?_; dsimp only)); at_builtin; refine Kd.R_append_rows (Kd.int .i64) (w0 := w) w.heap.size rfl (.tmp 57) (.tmp 60) 42 3 (.int .i64 0) 8 rfl Try.underlying42 info3 rfl (by decide) (by omega) (.slice none 0 0) ([] : List Int) y300 _ _ _ (fun k_ => some k_ ≠ (.slice (some ad299) x6_2.length co12 : Value).ownBlock) (fun _ => False) rfl rfl ?aO ?aR (fun _ _ h => h) (fun _ h => h.elim) ?aF ?aB ?aS ?aL ?_; (case aR => repeat (first | exact (by repeat (first | (with_reducible exact HR303.out) | (with_reducible refine Kd.C_alloc ?_ _) | (with_reducible refine Kd.C_drewN ?_ _) | (with_reducible refine Kd.C_drew ?_) | exact HR303.out)) | (with_reducible refine Kd.C_alloc ?_ _) | (with_reducible refine Kd.C_drewN ?_ _) | (with_reducible refine Kd.C_drew ?_))); (case aB => exact (by repeat (first | (with_reducible first | exact HB.out | apply below_alloc | apply pw_below_drewN | apply below_drew1) | exact HB.out))); (case aF => exact (fun k_ hk => Kd.fresh' (Kd.R_lt (by (with_reducible repeat (first | apply Kd.R_alloc | apply Kd.R_drewN | apply Kd.R_drew)); exact HO_6.out)) k_ hk)); (case aO => exact ((Kd.R_nil _ _ _ _ (fun k_ => some k_ ≠ (.slice (some ad299) x6_2.length co12 : Value).ownBlock)))); (case aS => exact (below_size (by repeat (first | (with_reducible first | exact HB.out | apply below_alloc | apply pw_below_drewN | apply below_drew1) | exact HB.out)))); (case aL => have := LMc20.out; omega); intro v305 w26 ho hb hg hat; rw [← Ny304.out] at ho; have n0_ := Aside0.mk (Kd.R_after (Kd.R_apart_nil (by (with_reducible repeat (first | apply Kd.R_alloc | apply Kd.R_drewN | apply Kd.R_drew)); exact HO_6.out)) hg hat); have n1_ := Aside0.mk (hb); have n2_ := Aside0.mk ((show Kd.C (Kd.int .i64) w26 (some ad299) y300.length y300 from by rw [Ny300.out]; exact Kd.C_take (m := (x9_4 : Int).toNat) ((Kd.R_reads' (Kd.R_after (Kd.R_apart_nil (by (with_reducible repeat (first | apply Kd.R_alloc | apply Kd.R_drewN | apply Kd.R_drew)); exact HO_6.out)) hg hat)).2.2) KL25.out)); have n3_ := Aside0.mk (ho); clear HO_6; clear HB; clear HR303; have HO_6 := n0_; have HB := n1_; have HR303 := n2_; have HO306 := n3_; clear n0_ n1_ n2_ n3_; clear ho hb hg hat) | ((with_reducible refine gate_builtin (b := .append) (xs := #[.tmp 62, .tmp 64]) rfl ?_); (try (refine gate_guard (by rfl) ?_; dsimp only)); at_builtin; refine Kd.R_append (Kd.int .i64) (w0 := w) w.heap.size rfl (.tmp 62) (.tmp 64) 42 3 (.int .i64 0) 8 rfl Try.underlying42 info3 rfl (by decide) (by omega) v305 y304 x8_9 [.int .i64 x8_9] (fun k_ => some k_ ≠ (.slice (some ad299) x6_2.length co12 : Value).ownBlock) (fun _ => False) rfl rfl ?aP (fun _ hk => hk.elim) ?aF ?aO ?aB ?aS ?aL ?_; (case aP => exact rfl); (case aB => exact (by repeat (first | (with_reducible first | exact HB.out | apply below_alloc | apply pw_below_drewN | apply below_drew1) | exact HB.out))); (case aF => exact (fun k_ hk => Kd.fresh' (Kd.R_lt (by (with_reducible repeat (first | apply Kd.R_alloc | apply Kd.R_drewN | apply Kd.R_drew)); exact HO_6.out)) k_ hk)); (case aO => exact (by (with_reducible repeat (first | apply Kd.R_alloc | apply Kd.R_drewN | apply Kd.R_drew)); exact HO306.out)); (case aS => exact (below_size (by repeat (first | (with_reducible first | exact HB.out | apply below_alloc | apply pw_below_drewN | apply below_drew1) | exact HB.out)))); (case aL => have := LMc21.out; omega); intro v308 w27 ho hb hg hat; rw [← Ny307.out] at ho; have n0_ := Aside0.mk (Kd.R_after (ok := (fun _ => True)) (by (with_reducible repeat (first | apply Kd.R_alloc | apply Kd.R_drewN | apply Kd.R_drew)); exact HO_6.out) hg hat); have n1_ := Aside0.mk (hb); have n2_ := Aside0.mk ((show Kd.C (Kd.int .i64) w27 (some ad299) y300.length y300 from by rw [Ny300.out]; exact Kd.C_take (m := (x9_4 : Int).toNat) ((Kd.R_reads' (Kd.R_after (ok := (fun _ => True)) (by (with_reducible repeat (first | apply Kd.R_alloc | apply Kd.R_drewN | apply Kd.R_drew)); exact HO_6.out) hg hat)).2.2) KL25.out)); have n3_ := Aside0.mk (ho); clear HO_6; clear HB; clear HR303; clear HO306; have HO_6 := n0_; have HB := n1_; have HR303 := n2_; have HO309 := n3_; clear n0_ n1_ n2_ n3_; clear ho hb hg hat; have q28 : (x9_4 : Int) ≤ ((x6_2.length : Int) : Int) := of_decide_eq_true (by first | (with_reducible assumption) | assumption); obtain ⟨i028, hi028, _, hsz28, _⟩ := info_parts info3; have hroom28 : x6_2.length ≤ co12 := (Kd.R_reads' HO_6.out).2.1; have hC28 : Kd.C (Kd.int .i64) _ (some ad299) x6_2.length x6_2 := (Kd.R_reads' HO_6.out).2.2; have q028 : (0 : Int) ≤ (x9_4 : Int) := of_decide_eq_true (by first | (with_reducible assumption) | assumption); have hcut28 := cut_from (P := Try.prog) 42 3 .i64 Try.underlying42 hi028 1 hsz28 (some ad299) x6_2.length co12 x9_4 q028 q28; have hr28 := Kd.C_drop (m := (x9_4 : Int).toNat) (c := co12) hC28 (by omega) hroom28; obtain ⟨A28, hA28⟩ : ∃ A1, A1 = (if co12 = (x9_4 : Int).toNat then (some ad299) else ((some ad299) : Option Addr).map (·.add ((x9_4 : Int).toNat * 1))) := ⟨_, rfl⟩; obtain ⟨c28, hc28⟩ : ∃ c1, c1 = co12 - (x9_4 : Int).toNat := ⟨_, rfl⟩; have hy28 : y310.length = x6_2.length - (x9_4 : Int).toNat := (by rw [Ny310.out, List.length_drop] <;> omega); rw [show (x6_2).drop (x9_4 : Int).toNat = y310 from Ny310.out.symm] at hr28; replace hr28 : Kd.C (Kd.int .i64) _ A28 y310.length y310 := (by rw [hA28]; exact hr28); rw [← hy28, ← hA28, ← hc28] at hcut28; have HR313 := Aside0.mk hr28; have HC313 := Aside0.mk (show y310.length ≤ c28 from by rw [hy28, hc28]; exact Nat.sub_le_sub_right hroom28 _); clear hr28 hC28 hroom28 hi028 hsz28 hc28; have KY28 := Aside0.mk hy28; have KA28 := Aside0.mk hA28; clear hy28 hA28; have KL28 := Aside0.mk (show (x9_4 : Int).toNat ≤ x6_2.length from by omega); replace q28 := eq_true q28) | ((with_reducible refine gate_builtin (b := .append) (xs := #[.tmp 66, .tmp 69]) rfl ?_); (try (refine gate_guard (by rfl) ?_; dsimp only)); at_builtin; refine Kd.R_append_rows (Kd.int .i64) (w0 := w) w.heap.size rfl (.tmp 66) (.tmp 69) 42 3 (.int .i64 0) 8 rfl Try.underlying42 info3 rfl (by decide) (by omega) v308 y307 y310 _ _ _ (fun k_ => some k_ ≠ (.slice (some ad299) x6_2.length co12 : Value).ownBlock) (fun _ => False) rfl rfl ?aO ?aR (fun _ _ h => h) (fun _ h => h.elim) ?aF ?aB ?aS ?aL ?_; (case aR => repeat (first | exact (by repeat (first | (with_reducible exact HR313.out) | (with_reducible refine Kd.C_alloc ?_ _) | (with_reducible refine Kd.C_drewN ?_ _) | (with_reducible refine Kd.C_drew ?_) | exact HR313.out)) | (with_reducible refine Kd.C_alloc ?_ _) | (with_reducible refine Kd.C_drewN ?_ _) | (with_reducible refine Kd.C_drew ?_))); (case aB => exact (by repeat (first | (with_reducible first | exact HB.out | apply below_alloc | apply pw_below_drewN | apply below_drew1) | exact HB.out))); (case aF => exact (fun k_ hk => Kd.fresh' (Kd.R_lt (by (with_reducible repeat (first | apply Kd.R_alloc | apply Kd.R_drewN | apply Kd.R_drew)); exact HO_6.out)) k_ hk)); (case aO => exact (by (with_reducible repeat (first | apply Kd.R_alloc | apply Kd.R_drewN | apply Kd.R_drew)); exact HO309.out)); (case aS => exact (below_size (by repeat (first | (with_reducible first | exact HB.out | apply below_alloc | apply pw_below_drewN | apply below_drew1) | exact HB.out)))); (case aL => have := LMc24.out; omega); intro v315 w29 ho hb hg hat; rw [← Ny314.out] at ho; have n0_ := Aside0.mk (Kd.R_after (ok := (fun _ => True)) (by (with_reducible repeat (first | apply Kd.R_alloc | apply Kd.R_drewN | apply Kd.R_drew)); exact HO_6.out) hg hat); have n1_ := Aside0.mk (hb); have n2_ := Aside0.mk ((show Kd.C (Kd.int .i64) w29 (some ad299) y300.length y300 from by rw [Ny300.out]; exact Kd.C_take (m := (x9_4 : Int).toNat) ((Kd.R_reads' (Kd.R_after (ok := (fun _ => True)) (by (with_reducible repeat (first | apply Kd.R_alloc | apply Kd.R_drewN | apply Kd.R_drew)); exact HO_6.out) hg hat)).2.2) KL25.out)); have n3_ := Aside0.mk ((show Kd.C (Kd.int .i64) w29 A28 y310.length y310 from by rw [Ny310.out, KA28.out]; exact Kd.C_drop (m := (x9_4 : Int).toNat) (c := co12) ((Kd.R_reads' (Kd.R_after (ok := (fun _ => True)) (by (with_reducible repeat (first | apply Kd.R_alloc | apply Kd.R_drewN | apply Kd.R_drew)); exact HO_6.out) hg hat)).2.2) KL28.out ((Kd.R_reads' (Kd.R_after (ok := (fun _ => True)) (by (with_reducible repeat (first | apply Kd.R_alloc | apply Kd.R_drewN | apply Kd.R_drew)); exact HO_6.out) hg hat)).2.1))); have n4_ := Aside0.mk (ho); clear HO_6; clear HB; clear HR303; clear HR313; clear HO309; have HO_6 := n0_; have HB := n1_; have HR303 := n2_; have HR313 := n3_; have HO316 := n4_; clear n0_ n1_ n2_ n3_ n4_; clear ho hb hg hat))
                                              go_roundg k4
                                              case measure => have := HJ2.out; have := HK2.out; have := HJ9.out; have := HK4.out; omega
                                              case rel => exact ⟨(y314), (wrap64 (x7_2 + 1)), (by first | rfl | (simp; done) | (simp [*]; done)), H', ⟨by have := HJ2.out; have := HK2.out; have := HJ9.out; have := HK4.out; omega⟩, ⟨by (with_reducible repeat (first | apply Kd.R_alloc | apply Kd.R_drewN | apply Kd.R_drew)); exact Kd.R_mono HO316.out (fun _ hk => trivial)⟩, ⟨by repeat (first | (with_reducible first | exact HB.out | apply below_alloc | apply pw_below_drewN | apply below_drew1) | exact HB.out)⟩⟩
                                            · rw [if_neg c24] at H
                                              exact absurd H (by simp)
                                          · rw [if_neg c21] at H
                                            exact absurd H (by simp)
                                        · rw [if_neg c20] at H
                                          exact absurd H (by simp)
                                      · rw [if_neg c19] at H
                                        exact absurd H (by simp)
                                    · rw [if_neg c18] at H
                                      exact absurd H (by simp)
                                · rw [if_neg c16] at H
                                  exact absurd H (by simp)
                              · rw [if_neg c15] at H
                                exact absurd H (by simp)
                            · rw [if_neg c13] at H
                              have c13b0 : decide (0 < x9_4) = false := decide_eq_false c13
                              clear c13
                              by_cases c30 : 0 ≤ x9_4
                              · rw [if_pos c30] at H
                                have c30b0 := eq_true c30
                                have c30b1 : decide (0 ≤ x9_4) = true := decide_eq_true c30
                                clear c30
                                by_cases c31 : x9_4 ≤ (x6_2.length : Int)
                                · rw [if_pos c31] at H
                                  have c31b0 := eq_true c31
                                  have c31b1 : decide (x9_4 ≤ (x6_2.length : Int)) = true := decide_eq_true c31
                                  clear c31
                                  obtain ⟨y317, hy317⟩ : ∃ y_ : List Int, y_ = (x6_2.take (x9_4 : Int).toNat) := ⟨_, rfl⟩
                                  replace H : (if ([] : List Int).length + y317.length < 17592186044416 then ((some (([] : List Int) ++ y317 : List Int)).bind fun y321 => (if y321.length < 17592186044416 then ((some (y321 ++ [x8_9] : List Int)).bind fun y324 => ((some (x6_2.drop (x9_4 : Int).toNat : List Int)).bind fun y327 => (if y324.length + y327.length < 17592186044416 then (winnowref13_Cut.l0 k4 a0 l1 (y324 ++ y327) (wrap64 (x7_2 + 1))) else (none)))) else (none))) else (none)) = some (r1, r2) := by first | (rw [hy317]; with_reducible exact H) | (have H2_ := (Option.bind_some _ _).symm.trans H; rw [hy317]; with_reducible exact H2_) | (have H2_ := (Option.bind_some _ _).symm.trans H; with_reducible exact H2_) | with_reducible exact H | (rw [hy317]; exact H) | exact H
                                  have Ny317 := Aside0.mk hy317
                                  clear hy317
                                  by_cases c32 : ([] : List Int).length + y317.length < 17592186044416
                                  · rw [if_pos c32] at H
                                    have LMc32 := Aside0.mk c32
                                    clear c32
                                    obtain ⟨y321, hy321⟩ : ∃ y_ : List Int, y_ = (([] : List Int) ++ y317) := ⟨_, rfl⟩
                                    replace H : (if y321.length < 17592186044416 then ((some (y321 ++ [x8_9] : List Int)).bind fun y324 => ((some (x6_2.drop (x9_4 : Int).toNat : List Int)).bind fun y327 => (if y324.length + y327.length < 17592186044416 then (winnowref13_Cut.l0 k4 a0 l1 (y324 ++ y327) (wrap64 (x7_2 + 1))) else (none)))) else (none)) = some (r1, r2) := by first | (rw [hy321]; with_reducible exact H) | (have H2_ := (Option.bind_some _ _).symm.trans H; rw [hy321]; with_reducible exact H2_) | (have H2_ := (Option.bind_some _ _).symm.trans H; with_reducible exact H2_) | with_reducible exact H | (rw [hy321]; exact H) | exact H
                                    have Ny321 := Aside0.mk hy321
                                    clear hy321
                                    by_cases c33 : y321.length < 17592186044416
                                    · rw [if_pos c33] at H
                                      have LMc33 := Aside0.mk c33
                                      clear c33
                                      obtain ⟨y324, hy324⟩ : ∃ y_ : List Int, y_ = (y321 ++ [x8_9]) := ⟨_, rfl⟩
                                      replace H : ((some (x6_2.drop (x9_4 : Int).toNat : List Int)).bind fun y327 => (if y324.length + y327.length < 17592186044416 then (winnowref13_Cut.l0 k4 a0 l1 (y324 ++ y327) (wrap64 (x7_2 + 1))) else (none))) = some (r1, r2) := by first | (rw [hy324]; with_reducible exact H) | (have H2_ := (Option.bind_some _ _).symm.trans H; rw [hy324]; with_reducible exact H2_) | (have H2_ := (Option.bind_some _ _).symm.trans H; with_reducible exact H2_) | with_reducible exact H | (rw [hy324]; exact H) | exact H
                                      have Ny324 := Aside0.mk hy324
                                      clear hy324
                                      have c34b0 := eq_true (of_decide_eq_true (by first | (with_reducible assumption) | assumption) : 0 ≤ x9_4)
                                      have c35b0 := eq_true (of_decide_eq_true (by first | (with_reducible assumption) | assumption) : x9_4 ≤ (x6_2.length : Int))
                                      obtain ⟨y327, hy327⟩ : ∃ y_ : List Int, y_ = (x6_2.drop (x9_4 : Int).toNat) := ⟨_, rfl⟩
                                      replace H : (if y324.length + y327.length < 17592186044416 then (winnowref13_Cut.l0 k4 a0 l1 (y324 ++ y327) (wrap64 (x7_2 + 1))) else (none)) = some (r1, r2) := by first | (rw [hy327]; with_reducible exact H) | (have H2_ := (Option.bind_some _ _).symm.trans H; rw [hy327]; with_reducible exact H2_) | (have H2_ := (Option.bind_some _ _).symm.trans H; with_reducible exact H2_) | with_reducible exact H | (rw [hy327]; exact H) | exact H
                                      have Ny327 := Aside0.mk hy327
                                      clear hy327
                                      by_cases c36 : y324.length + y327.length < 17592186044416
                                      · rw [if_pos c36] at H
                                        have LMc36 := Aside0.mk c36
                                        clear c36
                                        obtain ⟨y331, hy331⟩ : ∃ y_ : List Int, y_ = (y324 ++ y327) := ⟨_, rfl⟩
                                        replace H : (winnowref13_Cut.l0 k4 a0 l1 y331 (wrap64 (x7_2 + 1))) = some (r1, r2) := by first | (rw [hy331]; with_reducible exact H) | (have H2_ := (Option.bind_some _ _).symm.trans H; rw [hy331]; with_reducible exact H2_) | (have H2_ := (Option.bind_some _ _).symm.trans H; with_reducible exact H2_) | with_reducible exact H | (rw [hy331]; exact H) | exact H
                                        have Ny331 := Aside0.mk hy331
                                        clear hy331
                                        have H' := Aside0.mk H
                                        clear H
                                        have q37 : (x9_4 : Int) ≤ ((x6_2.length : Int) : Int) := of_decide_eq_true (by first | (with_reducible assumption) | assumption)
                                        obtain ⟨i037, hi037, _, hsz37, _⟩ := info_parts info3
                                        have hroom37 : x6_2.length ≤ co12 := (Kd.R_reads' HO_6.out).2.1
                                        have hC37 : Kd.C (Kd.int .i64) _ Ao12 x6_2.length x6_2 := (Kd.R_reads' HO_6.out).2.2
                                        have hcut37 := cut_to (P := Try.prog) 42 3 .i64 Try.underlying42 hi037 Ao12 x6_2.length co12 x9_4 (of_decide_eq_true (by first | (with_reducible assumption) | assumption)) q37 hroom37
                                        have hr37 := Kd.C_take (m := (x9_4 : Int).toNat) hC37 (by omega)
                                        have hy37 : y317.length = (x9_4 : Int).toNat := (by rw [Ny317.out, List.length_take]; omega)
                                        rw [← Ny317.out] at hr37
                                        rw [← hy37] at hcut37
                                        have HR320 := Aside0.mk hr37
                                        have HC320 := Aside0.mk (show y317.length ≤ co12 from by omega)
                                        clear hr37 hC37 hroom37 hi037 hsz37
                                        have KY37 := Aside0.mk hy37
                                        clear hy37
                                        have KL37 := Aside0.mk (show (x9_4 : Int).toNat ≤ x6_2.length from by omega)
                                        replace q37 := eq_true q37
                                        go_wp2_with (first | ((with_reducible refine gate_builtin (b := .append) (xs := #[.tmp 57, .tmp 60]) rfl ?_); (try (refine gate_guard (by rfl) ?_; dsimp only)); at_builtin; refine Kd.R_append_rows (Kd.int .i64) (w0 := w) w.heap.size rfl (.tmp 57) (.tmp 60) 42 3 (.int .i64 0) 8 rfl Try.underlying42 info3 rfl (by decide) (by omega) (.slice none 0 0) ([] : List Int) y317 _ _ _ (fun k_ => some k_ ≠ (.slice Ao12 x6_2.length co12 : Value).ownBlock) (fun _ => False) rfl rfl ?aO ?aR (fun _ _ h => h) (fun _ h => h.elim) ?aF ?aB ?aS ?aL ?_; (case aR => repeat (first | exact (by repeat (first | (with_reducible exact HR320.out) | (with_reducible refine Kd.C_alloc ?_ _) | (with_reducible refine Kd.C_drewN ?_ _) | (with_reducible refine Kd.C_drew ?_) | exact HR320.out)) | (with_reducible refine Kd.C_alloc ?_ _) | (with_reducible refine Kd.C_drewN ?_ _) | (with_reducible refine Kd.C_drew ?_))); (case aB => exact (by repeat (first | (with_reducible first | exact HB.out | apply below_alloc | apply pw_below_drewN | apply below_drew1) | exact HB.out))); (case aF => exact (fun k_ hk => Kd.fresh' (Kd.R_lt (by (with_reducible repeat (first | apply Kd.R_alloc | apply Kd.R_drewN | apply Kd.R_drew)); exact HO_6.out)) k_ hk)); (case aO => exact ((Kd.R_nil _ _ _ _ (fun k_ => some k_ ≠ (.slice Ao12 x6_2.length co12 : Value).ownBlock)))); (case aS => exact (below_size (by repeat (first | (with_reducible first | exact HB.out | apply below_alloc | apply pw_below_drewN | apply below_drew1) | exact HB.out)))); (case aL => have := LMc32.out; omega); intro v322 w38 ho hb hg hat; rw [← Ny321.out] at ho; have n0_ := Aside0.mk (Kd.R_after (Kd.R_apart_nil (by (with_reducible repeat (first | apply Kd.R_alloc | apply Kd.R_drewN | apply Kd.R_drew)); exact HO_6.out)) hg hat); have n1_ := Aside0.mk (hb); have n2_ := Aside0.mk ((show Kd.C (Kd.int .i64) w38 Ao12 y317.length y317 from by rw [Ny317.out]; exact Kd.C_take (m := (x9_4 : Int).toNat) ((Kd.R_reads' (Kd.R_after (Kd.R_apart_nil (by (with_reducible repeat (first | apply Kd.R_alloc | apply Kd.R_drewN | apply Kd.R_drew)); exact HO_6.out)) hg hat)).2.2) KL37.out)); have n3_ := Aside0.mk (ho); clear HO_6; clear HB; clear HR320; have HO_6 := n0_; have HB := n1_; have HR320 := n2_; have HO323 := n3_; clear n0_ n1_ n2_ n3_; clear ho hb hg hat) | ((with_reducible refine gate_builtin (b := .append) (xs := #[.tmp 62, .tmp 64]) rfl ?_); (try (refine gate_guard (by rfl) ?_; dsimp only)); at_builtin; refine Kd.R_append (Kd.int .i64) (w0 := w) w.heap.size rfl (.tmp 62) (.tmp 64) 42 3 (.int .i64 0) 8 rfl Try.underlying42 info3 rfl (by decide) (by omega) v322 y321 x8_9 [.int .i64 x8_9] (fun k_ => some k_ ≠ (.slice Ao12 x6_2.length co12 : Value).ownBlock) (fun _ => False) rfl rfl ?aP (fun _ hk => hk.elim) ?aF ?aO ?aB ?aS ?aL ?_; (case aP => exact rfl); (case aB => exact (by repeat (first | (with_reducible first | exact HB.out | apply below_alloc | apply pw_below_drewN | apply below_drew1) | exact HB.out))); (case aF => exact (fun k_ hk => Kd.fresh' (Kd.R_lt (by (with_reducible repeat (first | apply Kd.R_alloc | apply Kd.R_drewN | apply Kd.R_drew)); exact HO_6.out)) k_ hk)); (case aO => exact (by (with_reducible repeat (first | apply Kd.R_alloc | apply Kd.R_drewN | apply Kd.R_drew)); exact HO323.out)); (case aS => exact (below_size (by repeat (first | (with_reducible first | exact HB.out | apply below_alloc | apply pw_below_drewN | apply below_drew1) | exact HB.out)))); (case aL => have := LMc33.out; omega); intro v325 w39 ho hb hg hat; rw [← Ny324.out] at ho; have n0_ := Aside0.mk (Kd.R_after (ok := (fun _ => True)) (by (with_reducible repeat (first | apply Kd.R_alloc | apply Kd.R_drewN | apply Kd.R_drew)); exact HO_6.out) hg hat); have n1_ := Aside0.mk (hb); have n2_ := Aside0.mk ((show Kd.C (Kd.int .i64) w39 Ao12 y317.length y317 from by rw [Ny317.out]; exact Kd.C_take (m := (x9_4 : Int).toNat) ((Kd.R_reads' (Kd.R_after (ok := (fun _ => True)) (by (with_reducible repeat (first | apply Kd.R_alloc | apply Kd.R_drewN | apply Kd.R_drew)); exact HO_6.out) hg hat)).2.2) KL37.out)); have n3_ := Aside0.mk (ho); clear HO_6; clear HB; clear HR320; clear HO323; have HO_6 := n0_; have HB := n1_; have HR320 := n2_; have HO326 := n3_; clear n0_ n1_ n2_ n3_; clear ho hb hg hat; have q40 : (x9_4 : Int) ≤ ((x6_2.length : Int) : Int) := of_decide_eq_true (by first | (with_reducible assumption) | assumption); obtain ⟨i040, hi040, _, hsz40, _⟩ := info_parts info3; have hroom40 : x6_2.length ≤ co12 := (Kd.R_reads' HO_6.out).2.1; have hC40 : Kd.C (Kd.int .i64) _ Ao12 x6_2.length x6_2 := (Kd.R_reads' HO_6.out).2.2; have q040 : (0 : Int) ≤ (x9_4 : Int) := of_decide_eq_true (by first | (with_reducible assumption) | assumption); have hcut40 := cut_from (P := Try.prog) 42 3 .i64 Try.underlying42 hi040 1 hsz40 Ao12 x6_2.length co12 x9_4 q040 q40; have hr40 := Kd.C_drop (m := (x9_4 : Int).toNat) (c := co12) hC40 (by omega) hroom40; obtain ⟨A40, hA40⟩ : ∃ A1, A1 = (if co12 = (x9_4 : Int).toNat then Ao12 else (Ao12 : Option Addr).map (·.add ((x9_4 : Int).toNat * 1))) := ⟨_, rfl⟩; obtain ⟨c40, hc40⟩ : ∃ c1, c1 = co12 - (x9_4 : Int).toNat := ⟨_, rfl⟩; have hy40 : y327.length = x6_2.length - (x9_4 : Int).toNat := (by rw [Ny327.out, List.length_drop] <;> omega); rw [show (x6_2).drop (x9_4 : Int).toNat = y327 from Ny327.out.symm] at hr40; replace hr40 : Kd.C (Kd.int .i64) _ A40 y327.length y327 := (by rw [hA40]; exact hr40); rw [← hy40, ← hA40, ← hc40] at hcut40; have HR330 := Aside0.mk hr40; have HC330 := Aside0.mk (show y327.length ≤ c40 from by rw [hy40, hc40]; exact Nat.sub_le_sub_right hroom40 _); clear hr40 hC40 hroom40 hi040 hsz40 hc40; have KY40 := Aside0.mk hy40; have KA40 := Aside0.mk hA40; clear hy40 hA40; have KL40 := Aside0.mk (show (x9_4 : Int).toNat ≤ x6_2.length from by omega); replace q40 := eq_true q40) | ((with_reducible refine gate_builtin (b := .append) (xs := #[.tmp 66, .tmp 69]) rfl ?_); (try (refine gate_guard (by rfl) ?_; dsimp only)); at_builtin; refine Kd.R_append_rows (Kd.int .i64) (w0 := w) w.heap.size rfl (.tmp 66) (.tmp 69) 42 3 (.int .i64 0) 8 rfl Try.underlying42 info3 rfl (by decide) (by omega) v325 y324 y327 _ _ _ (fun k_ => some k_ ≠ (.slice Ao12 x6_2.length co12 : Value).ownBlock) (fun _ => False) rfl rfl ?aO ?aR (fun _ _ h => h) (fun _ h => h.elim) ?aF ?aB ?aS ?aL ?_; (case aR => repeat (first | exact (by repeat (first | (with_reducible exact HR330.out) | (with_reducible refine Kd.C_alloc ?_ _) | (with_reducible refine Kd.C_drewN ?_ _) | (with_reducible refine Kd.C_drew ?_) | exact HR330.out)) | (with_reducible refine Kd.C_alloc ?_ _) | (with_reducible refine Kd.C_drewN ?_ _) | (with_reducible refine Kd.C_drew ?_))); (case aB => exact (by repeat (first | (with_reducible first | exact HB.out | apply below_alloc | apply pw_below_drewN | apply below_drew1) | exact HB.out))); (case aF => exact (fun k_ hk => Kd.fresh' (Kd.R_lt (by (with_reducible repeat (first | apply Kd.R_alloc | apply Kd.R_drewN | apply Kd.R_drew)); exact HO_6.out)) k_ hk)); (case aO => exact (by (with_reducible repeat (first | apply Kd.R_alloc | apply Kd.R_drewN | apply Kd.R_drew)); exact HO326.out)); (case aS => exact (below_size (by repeat (first | (with_reducible first | exact HB.out | apply below_alloc | apply pw_below_drewN | apply below_drew1) | exact HB.out)))); (case aL => have := LMc36.out; omega); intro v332 w41 ho hb hg hat; rw [← Ny331.out] at ho; have n0_ := Aside0.mk (Kd.R_after (ok := (fun _ => True)) (by (with_reducible repeat (first | apply Kd.R_alloc | apply Kd.R_drewN | apply Kd.R_drew)); exact HO_6.out) hg hat); have n1_ := Aside0.mk (hb); have n2_ := Aside0.mk ((show Kd.C (Kd.int .i64) w41 Ao12 y317.length y317 from by rw [Ny317.out]; exact Kd.C_take (m := (x9_4 : Int).toNat) ((Kd.R_reads' (Kd.R_after (ok := (fun _ => True)) (by (with_reducible repeat (first | apply Kd.R_alloc | apply Kd.R_drewN | apply Kd.R_drew)); exact HO_6.out) hg hat)).2.2) KL37.out)); have n3_ := Aside0.mk ((show Kd.C (Kd.int .i64) w41 A40 y327.length y327 from by rw [Ny327.out, KA40.out]; exact Kd.C_drop (m := (x9_4 : Int).toNat) (c := co12) ((Kd.R_reads' (Kd.R_after (ok := (fun _ => True)) (by (with_reducible repeat (first | apply Kd.R_alloc | apply Kd.R_drewN | apply Kd.R_drew)); exact HO_6.out) hg hat)).2.2) KL40.out ((Kd.R_reads' (Kd.R_after (ok := (fun _ => True)) (by (with_reducible repeat (first | apply Kd.R_alloc | apply Kd.R_drewN | apply Kd.R_drew)); exact HO_6.out) hg hat)).2.1))); have n4_ := Aside0.mk (ho); clear HO_6; clear HB; clear HR320; clear HR330; clear HO326; have HO_6 := n0_; have HB := n1_; have HR320 := n2_; have HR330 := n3_; have HO333 := n4_; clear n0_ n1_ n2_ n3_ n4_; clear ho hb hg hat))
                                        go_roundg k4
                                        case measure => have := HJ2.out; have := HK2.out; have := HJ9.out; have := HK4.out; omega
                                        case rel => exact ⟨(y331), (wrap64 (x7_2 + 1)), (by first | rfl | (simp; done) | (simp [*]; done)), H', ⟨by have := HJ2.out; have := HK2.out; have := HJ9.out; have := HK4.out; omega⟩, ⟨by (with_reducible repeat (first | apply Kd.R_alloc | apply Kd.R_drewN | apply Kd.R_drew)); exact Kd.R_mono HO333.out (fun _ hk => trivial)⟩, ⟨by repeat (first | (with_reducible first | exact HB.out | apply below_alloc | apply pw_below_drewN | apply below_drew1) | exact HB.out)⟩⟩
                                      · rw [if_neg c36] at H
                                        exact absurd H (by simp)
                                    · rw [if_neg c33] at H
                                      exact absurd H (by simp)
                                  · rw [if_neg c32] at H
                                    exact absurd H (by simp)
                                · rw [if_neg c31] at H
                                  exact absurd H (by simp)
                              · rw [if_neg c30] at H
                                exact absurd H (by simp)
                · rw [if_neg c8] at H
                  exact absurd H (by simp)
              · rw [if_neg c7] at H
                have c7b0 : decide (x7_2 < (l1.length : Int)) = false := decide_eq_false c7
                clear c7
                have H' := Aside0.mk H
                clear H
                go_wp2
                go_loopg [11, 12, 13] k2 (fun kq v11 v12 v13 w' => ∃ (x11_3 : List (S33)) (x12_3 : Int) (x13_3 : Int), v12 = .int .i64 x12_3 ∧ v13 = .int .i64 x13_3 ∧ Aside0 (winnowref13_Cut.l2 kq a0 x6_2 x11_3 x12_3 x13_3 = some (r1, r2)) ∧ Aside0 (kq ≤ k2) ∧ Aside0 (Kd.R (Kd.int .i64) 3 w' w.heap.size (fun _ => True) u6 x6_2) ∧ Aside0 (Kd.R k33 33 w' w.heap.size (fun _ => True) v11 x11_3) ∧ Aside0 (Below w.heap.size w w'))
                case atStart => exact ⟨(([] : List (S33))), (0), (0), (by first | rfl | (simp; done) | (simp [*]; done)), (by first | rfl | (simp; done) | (simp [*]; done)), H', ⟨Nat.le_refl _⟩, ⟨by (with_reducible repeat (first | apply Kd.R_alloc | apply Kd.R_drewN | apply Kd.R_drew)); exact HO_6.out⟩, ⟨by first | exact Kd.R_nil _ _ _ _ _ | exact Kd.N_nil _ _ _ _ _ | exact Kd.V_nil _ _ _ _ _ | exact Kd.Q_nil _ _ _ _ _ | exact Kd.S_nil _ _ _ _ _⟩, ⟨by repeat (first | (with_reducible first | exact HB.out | apply below_alloc | apply pw_below_drewN | apply below_drew1) | exact HB.out)⟩⟩
                case round =>
                  clear H'
                  try clear c1
                  try clear c2
                  try clear p2
                  try clear q2
                  try clear hx2
                  try clear c3
                  try clear q3
                  try clear c4
                  try clear c4b0
                  try clear q4
                  try clear c5
                  try clear c6
                  try clear c6b0
                  try clear p6
                  try clear c7
                  try clear c7b0
                  try clear c8
                  try clear c8b0
                  try clear c9
                  try clear c9b0
                  try clear c9b1
                  try clear c11
                  try clear c11b0
                  try clear c13
                  try clear c13b0
                  try clear c15
                  try clear c15b0
                  try clear c16
                  try clear c16b0
                  try clear c17
                  try clear c17b0
                  try clear c18
                  try clear c18b0
                  try clear c18b1
                  try clear c19
                  try clear c19b0
                  try clear c19b1
                  try clear c20
                  try clear c21
                  try clear c22
                  try clear c22b0
                  try clear c23
                  try clear c23b0
                  try clear c24
                  try clear q25
                  try clear c28
                  try clear q28
                  try clear p29
                  try clear q29
                  try clear hx29
                  try clear c30
                  try clear c30b0
                  try clear c30b1
                  try clear c31
                  try clear c31b0
                  try clear c31b1
                  try clear c32
                  try clear c33
                  try clear c34
                  try clear c34b0
                  try clear c35
                  try clear c35b0
                  try clear c36
                  try clear q37
                  try clear c40
                  try clear q40
                  try clear hx298_0
                  try clear hx299_0
                  try clear p2
                  try clear p298
                  try clear p299
                  try clear p6
                  try clear q028
                  try clear q040
                  try clear q2
                  try clear q25
                  try clear q28
                  try clear q298
                  try clear q299
                  try clear q37
                  try clear q40
                  obtain ⟨x11_3, x12_3, x13_3, rfl, rfl, HA, HK3, HO_6, HO_11, HB⟩ := hrel
                  cases gk with
                  | zero => exact absurd HA.out (by simp [winnowref13_Cut.l2])
                  | succ k3 =>
                    have H := HA.out
                    clear HA
                    simp only [winnowref13_Cut.l2] at H
                    by_cases c42 : x13_3 < (x6_2.length : Int)
                    · rw [if_pos c42] at H
                      have c42b0 : decide (x13_3 < (x6_2.length : Int)) = true := decide_eq_true c42
                      clear c42
                      by_cases c43 : 0 ≤ x13_3
                      · rw [if_pos c43] at H
                        have c43b0 : decide (0 ≤ x13_3) = true := decide_eq_true c43
                        clear c43
                        by_cases c44 : x11_3.length < 8796093022208
                        · rw [if_pos c44] at H
                          have LMc44 := Aside0.mk c44
                          clear c44
                          obtain ⟨y335, hy335⟩ : ∃ y_ : List (S33), y_ = (x11_3 ++ [(⟨x12_3, rd x6_2 x13_3⟩ : S33)]) := ⟨_, rfl⟩
                          replace H : (winnowref13_Cut.l2 k3 a0 x6_2 y335 (rd x6_2 x13_3) (wrap64 (x13_3 + 1))) = some (r1, r2) := by first | (rw [hy335]; with_reducible exact H) | (have H2_ := (Option.bind_some _ _).symm.trans H; rw [hy335]; with_reducible exact H2_) | (have H2_ := (Option.bind_some _ _).symm.trans H; with_reducible exact H2_) | with_reducible exact H | (rw [hy335]; exact H) | exact H
                          have Ny335 := Aside0.mk hy335
                          clear hy335
                          have H' := Aside0.mk H
                          clear H
                          obtain ⟨Ao45, co45, eo45⟩ := Kd.R_slice HO_6.out
                          subst eo45
                          have p334 : 0 ≤ (x13_3 : Int) := of_decide_eq_true (by first | (with_reducible assumption) | assumption)
                          have q334 : x13_3 < (x6_2.length : Int) := of_decide_eq_true (by first | (with_reducible assumption) | assumption)
                          obtain ⟨ad334, e334, hx334_0⟩ := Kd.at_int (Kd.R_reads' HO_6.out).2.2 x13_3 p334 q334
                          cases e334
                          replace p334 := eq_true p334
                          replace q334 := eq_true q334
                          go_wp2_with (first | ((with_reducible refine gate_builtin (b := .append) (xs := #[.tmp 78, .tmp 85]) rfl ?_); (try (refine gate_guard (by rfl) ?_; dsimp only)); at_builtin; refine Kd.R_append k33 (w0 := w) w.heap.size rfl (.tmp 78) (.tmp 85) 44 33 (.agg #[(.int .i64 0), (.int .i64 0)]) 16 rfl Try.underlying44 info33 rfl (by decide) (by omega) u11 x11_3 (⟨x12_3, rd x6_2 x13_3⟩ : S33) [.int .i64 x12_3, .int .i64 (rd x6_2 x13_3)] (fun _ => True) (fun _ => False) rfl rfl ?aP (fun _ hk => hk.elim) ?aF ?aO ?aB ?aS ?aL ?_; (case aP => exact k33_mkM _ _ _ (⟨x12_3, rd x6_2 x13_3⟩ : S33)); (case aB => exact (by repeat (first | (with_reducible first | exact HB.out | apply below_alloc | apply pw_below_drewN | apply below_drew1) | exact HB.out))); (case aF => exact (fun _ _ => trivial)); (case aO => exact (by (with_reducible repeat (first | apply Kd.R_alloc | apply Kd.R_drewN | apply Kd.R_drew)); exact HO_11.out)); (case aS => exact (below_size (by repeat (first | (with_reducible first | exact HB.out | apply below_alloc | apply pw_below_drewN | apply below_drew1) | exact HB.out)))); (case aL => have := LMc44.out; omega); intro v336 w46 ho hb hg hat; rw [← Ny335.out] at ho; have n0_ := Aside0.mk (Kd.R_over' (by (with_reducible repeat (first | apply Kd.R_alloc | apply Kd.R_drewN | apply Kd.R_drew)); exact HO_6.out) (Kd.R_typed (by (with_reducible repeat (first | apply Kd.R_alloc | apply Kd.R_drewN | apply Kd.R_drew)); exact HO_11.out)) (by decide) hg); have n1_ := Aside0.mk (hb); have n2_ := Aside0.mk (ho); clear HO_6; clear HB; clear HO_11; have HO_6 := n0_; have HB := n1_; have HO337 := n2_; clear n0_ n1_ n2_; clear ho hb hg hat; have p338 : 0 ≤ (x13_3 : Int) := of_decide_eq_true (by first | (with_reducible assumption) | assumption); have q338 : x13_3 < (x6_2.length : Int) := of_decide_eq_true (by first | (with_reducible assumption) | assumption); obtain ⟨ad338, e338, hx338_0⟩ := Kd.at_int (Kd.R_reads' HO_6.out).2.2 x13_3 p338 q338; obtain rfl : ad334 = ad338 := (by injection e338); replace p338 := eq_true p338; replace q338 := eq_true q338))
                          go_roundg k3
                          case measure => have := HJ2.out; have := HK2.out; have := HK3.out; omega
                          case rel => exact ⟨(y335), (rd x6_2 x13_3), (wrap64 (x13_3 + 1)), (by first | rfl | (simp; done) | (simp [*]; done)), (by first | rfl | (simp; done) | (simp [*]; done)), H', ⟨by have := HJ2.out; have := HK2.out; have := HK3.out; omega⟩, ⟨by (with_reducible repeat (first | apply Kd.R_alloc | apply Kd.R_drewN | apply Kd.R_drew)); exact HO_6.out⟩, ⟨by (with_reducible repeat (first | apply Kd.R_alloc | apply Kd.R_drewN | apply Kd.R_drew)); exact HO337.out⟩, ⟨by repeat (first | (with_reducible first | exact HB.out | apply below_alloc | apply pw_below_drewN | apply below_drew1) | exact HB.out)⟩⟩
                        · rw [if_neg c44] at H
                          exact absurd H (by simp)
                      · rw [if_neg c43] at H
                        exact absurd H (by simp)
                    · rw [if_neg c42] at H
                      have c42b0 : decide (x13_3 < (x6_2.length : Int)) = false := decide_eq_false c42
                      clear c42
                      by_cases c47 : x11_3.length < 8796093022208
                      · rw [if_pos c47] at H
                        have LMc47 := Aside0.mk c47
                        clear c47
                        obtain ⟨y339, hy339⟩ : ∃ y_ : List (S33), y_ = (x11_3 ++ [(⟨x12_3, a0⟩ : S33)]) := ⟨_, rfl⟩
                        replace H : (some (y339, 0)) = some (r1, r2) := by first | (rw [hy339]; with_reducible exact H) | (have H2_ := (Option.bind_some _ _).symm.trans H; rw [hy339]; with_reducible exact H2_) | (have H2_ := (Option.bind_some _ _).symm.trans H; with_reducible exact H2_) | with_reducible exact H | (rw [hy339]; exact H) | exact H
                        have Ny339 := Aside0.mk hy339
                        clear hy339
                        simp only [Option.some.injEq, Prod.mk.injEq] at H
                        obtain ⟨rfl, rfl⟩ := H
                        obtain ⟨Ao48, co48, eo48⟩ := Kd.R_slice HO_6.out
                        subst eo48
                        go_wp2_with (first | ((with_reducible refine gate_builtin (b := .append) (xs := #[.tmp 91, .tmp 95]) rfl ?_); (try (refine gate_guard (by rfl) ?_; dsimp only)); at_builtin; refine Kd.R_append k33 (w0 := w) w.heap.size rfl (.tmp 91) (.tmp 95) 44 33 (.agg #[(.int .i64 0), (.int .i64 0)]) 16 rfl Try.underlying44 info33 rfl (by decide) (by omega) u11 x11_3 (⟨x12_3, a0⟩ : S33) [.int .i64 x12_3, .int .i64 a0] (fun _ => True) (fun _ => False) rfl rfl ?aP (fun _ hk => hk.elim) ?aF ?aO ?aB ?aS ?aL ?_; (case aP => exact k33_mkM _ _ _ (⟨x12_3, a0⟩ : S33)); (case aB => exact (by repeat (first | (with_reducible first | exact HB.out | apply below_alloc | apply pw_below_drewN | apply below_drew1) | exact HB.out))); (case aF => exact (fun _ _ => trivial)); (case aO => exact (by (with_reducible repeat (first | apply Kd.R_alloc | apply Kd.R_drewN | apply Kd.R_drew)); exact HO_11.out)); (case aS => exact (below_size (by repeat (first | (with_reducible first | exact HB.out | apply below_alloc | apply pw_below_drewN | apply below_drew1) | exact HB.out)))); (case aL => have := LMc47.out; omega); intro v340 w49 ho hb hg hat; rw [← Ny339.out] at ho; have n0_ := Aside0.mk (Kd.R_over' (by (with_reducible repeat (first | apply Kd.R_alloc | apply Kd.R_drewN | apply Kd.R_drew)); exact HO_6.out) (Kd.R_typed (by (with_reducible repeat (first | apply Kd.R_alloc | apply Kd.R_drewN | apply Kd.R_drew)); exact HO_11.out)) (by decide) hg); have n1_ := Aside0.mk (hb); have n2_ := Aside0.mk (ho); clear HO_6; clear HB; clear HO_11; have HO_6 := n0_; have HB := n1_; have HO341 := n2_; clear n0_ n1_ n2_; clear ho hb hg hat))
                        go_ret2
                        exact ⟨_, by first | rfl | (simp [errW_none, errW_some] <;> rfl) | (simp [*, errW_none, errW_some] <;> rfl), by (with_reducible repeat (first | apply Kd.R_alloc | apply Kd.R_drewN | apply Kd.R_drew)); exact HO341.out, by repeat (first | (with_reducible first | exact HB.out | apply below_alloc | apply pw_below_drewN | apply below_drew1) | exact HB.out)⟩
                      · rw [if_neg c47] at H
                        exact absurd H (by simp)

end Go.Proofs.Ytbcggfjfgoabpaa.P

end
section
/- Cut in plain lists: the program's and the document's. -/
namespace Go.Proofs.Ytbcggfjfgoabpaa.P
open Go.RowKit Go.Proofs.YtbcggfjfgoabpaaW.PrintWords Go.Proofs.YtbcggfjfgoabpaaW.PrintLast
set_option linter.unusedVariables false

/-- a place within n -/
def placeOf (n x : Int) : Int := if x.tmod (n + 1) < 0 then x.tmod (n + 1) + n + 1 else x.tmod (n + 1)
theorem tmod_in (n x : Int) (h : 0 ≤ n) : -n ≤ x.tmod (n + 1) ∧ x.tmod (n + 1) ≤ n := by
  rcases Int.le_total 0 x with h0 | h0
  · have h1 := Int.tmod_nonneg (n + 1) h0
    have h2 := Int.tmod_lt_of_pos x (show 0 < n + 1 by omega)
    omega
  · obtain ⟨y, rfl⟩ : ∃ y, x = -y := ⟨-x, by omega⟩
    rw [Int.neg_tmod]
    have h1 := Int.tmod_nonneg (n + 1) (show 0 ≤ y by omega)
    have h2 := Int.tmod_lt_of_pos y (show 0 < n + 1 by omega)
    omega
theorem placeOf_in (n x : Int) (h : 0 ≤ n) : 0 ≤ placeOf n x ∧ placeOf n x ≤ n := by
  have := tmod_in n x h
  unfold placeOf
  split <;> omega
/-- pieces from place to place -/
def piecesFrom (n : Int) : Int → List Int → List S33
  | from_, [] => [⟨from_, n⟩]
  | from_, x :: l => ⟨from_, x⟩ :: piecesFrom n x l
def cutL (n : Int) (l : List Int) : List S33 × Int :=
  if n > 4194304 ∨ l.length ≥ 256 then ([], 2) else if n < 0 then ([], 3) else (piecesFrom n 0 (sortI (l.map (placeOf n))), 0)
theorem piecesFrom_length (n : Int) (l : List Int) : ∀ f, (piecesFrom n f l).length = l.length + 1 := by
  induction l with
  | nil => intro f; rfl
  | cons x l ih => intro f; simp [piecesFrom, ih]
theorem wrapC (i : Nat) (h : i ≤ 140737488355328) : wrap64 ((i : Int) + 1) = ((i + 1 : Nat) : Int) := by unfold wrap64; omega
theorem rdI_nat (l : List Int) (i : Nat) (h : i < l.length) : rd l (i : Int) = l[i] := by
  unfold rd
  rw [Int.toNat_natCast, List.getD_eq_getElem?_getD, List.getElem?_eq_getElem h]
  rfl
/-! ### the program's -/
theorem Cut_l1 (n : Int) (at_ : List Int) (hn : at_.length ≤ 300) (d : Nat) : ∀ (k i : Nat) (acc : List S33) (f : Int), i + d = at_.length → acc.length + d ≤ 1000 → d < k →
    lines_Cut.l1 k acc f (at_ ++ [n]) ((at_ ++ [n]).length : Int) (i : Int) = (if k < d + 2 then none else some (acc ++ piecesFrom n f (at_.drop i), 0)) := by
  induction d with
  | zero =>
    intro k i acc f hi ha hk
    obtain ⟨k, rfl⟩ : ∃ m, k = m + 1 := ⟨k - 1, by omega⟩
    have hl : (at_ ++ [n]).length = at_.length + 1 := by simp
    rw [lines_Cut.l1, if_pos (by omega), if_pos (Int.natCast_nonneg i), if_pos (by omega), if_pos (by omega), rdI_nat _ i (by omega), wrapC i (by omega)]
    have he : (at_ ++ [n])[i]'(by omega) = n := by
      rw [List.getElem_append_right (by omega)]; simp
    rw [he, List.drop_of_length_le (by omega)]
    cases k with
    | zero => rw [if_pos (by omega)]; rfl
    | succ k =>
      rw [if_neg (by omega), lines_Cut.l1, if_neg (by omega)]
      rfl
  | succ d ih =>
    intro k i acc f hi ha hk
    obtain ⟨k, rfl⟩ : ∃ m, k = m + 1 := ⟨k - 1, by omega⟩
    have hl : (at_ ++ [n]).length = at_.length + 1 := by simp
    rw [lines_Cut.l1, if_pos (by omega), if_pos (Int.natCast_nonneg i), if_pos (by omega), if_pos (by omega), rdI_nat _ i (by omega), wrapC i (by omega)]
    have he : (at_ ++ [n])[i]'(by omega) = at_[i]'(by omega) := List.getElem_append_left (by omega)
    rw [he, ih k (i + 1) _ _ (by omega) (by rw [List.length_append, List.length_singleton]; omega) (by omega), List.drop_eq_getElem_cons (show i < at_.length by omega)]
    by_cases hk2 : k < d + 2
    · rw [if_pos hk2, if_pos (by omega)]
    · rw [if_neg hk2, if_neg (by omega)]
      simp [piecesFrom]
theorem take_set_drop (l : List Int) (m : List Int) (i : Nat) (x : Int) (hi : i < l.length) (h : l = m ++ l.drop i) (hm : m.length = i) : l.set i x = (m ++ [x]) ++ (l.set i x).drop (i + 1) := by
  apply List.ext_getElem
  · simp; omega
  · intro j h1 h2
    rw [List.length_set] at h1
    by_cases h3 : j < i
    · rw [List.getElem_set_ne (by omega), List.getElem_append_left (by simp; omega), List.getElem_append_left (by omega)]
      have : l[j] = (m ++ l.drop i)[j]'(by rw [← h]; exact h1) := by congr 1
      rw [this, List.getElem_append_left (by omega)]
    · by_cases h4 : j = i
      · subst h4
        rw [List.getElem_set_self, List.getElem_append_left (by simp; omega), List.getElem_append_right (by omega)]
        simp
      · rw [List.getElem_append_right (by simp; omega), List.getElem_drop]
        congr 1
        simp; omega
theorem Cut_l0 (n : Int) (h0 : 0 ≤ n) (hn : n ≤ 4194304) (l : List Int) (hl : l.length ≤ 255) (d : Nat) : ∀ (k i : Nat) (b : List Int), i + d = l.length → b.length = l.length → b.take i = (l.take i).map (placeOf n) → l.length + d + 10 < k →
    lines_Cut.l0 k n l b (l.length : Int) (i : Int) = some (piecesFrom n 0 (sortI (l.map (placeOf n))), 0) := by
  have hw : wrap64 (n + 1) = n + 1 := by unfold wrap64; omega
  induction d with
  | zero =>
    intro k i b hi hb ht hk
    obtain ⟨k, rfl⟩ : ∃ m, k = m + 1 := ⟨k - 1, by omega⟩
    have hbm : b = l.map (placeOf n) := by
      rw [List.take_of_length_le (by omega), List.take_of_length_le (by omega)] at ht
      exact ht
    have hsl : (sortI (l.map (placeOf n))).length = l.length := by rw [sortI_length, List.length_map]
    rw [lines_Cut.l0, if_neg (by omega), hbm]
    unfold slices_Sort.f
    rw [if_pos (by rw [List.length_map]; omega), Option.bind_some, if_pos (by omega), Option.bind_some]
    have := Cut_l1 n (sortI (l.map (placeOf n))) (by omega) (sortI (l.map (placeOf n))).length k 0 [] 0 (by omega) (by rw [List.length_nil]; omega) (by omega)
    rw [if_neg (by omega), List.drop_zero, List.nil_append] at this
    exact this
  | succ d ih =>
    intro k i b hi hb ht hk
    obtain ⟨k, rfl⟩ : ∃ m, k = m + 1 := ⟨k - 1, by omega⟩
    have hil : i < l.length := by omega
    have hp := placeOf_in n (l[i]) h0
    have htm := tmod_in n (l[i]) h0
    have hb2 : b = (l.take i).map (placeOf n) ++ b.drop i := by rw [← ht, List.take_append_drop]
    have hml : ((l.take i).map (placeOf n)).length = i := by rw [List.length_map, List.length_take]; omega
    have hts : (l.take (i + 1)).map (placeOf n) = (l.take i).map (placeOf n) ++ [placeOf n l[i]] := by rw [List.take_succ_eq_append_getElem hil, List.map_append, List.map_singleton]
    have key : ∀ x : Int, x = placeOf n l[i] → ∀ b2 : List Int, b2 = b.set i x → b2.take (i + 1) = (l.take (i + 1)).map (placeOf n) ∧ b2.length = l.length := by
      rintro x rfl b2 rfl
      refine ⟨?_, by rw [List.length_set]; exact hb⟩
      rw [take_set_drop b ((l.take i).map (placeOf n)) i _ (by omega) hb2 hml, hts]
      rw [List.take_left' (by rw [List.length_append, hml, List.length_singleton])]
    rw [lines_Cut.l0, if_pos (by omega), if_pos (Int.natCast_nonneg i), if_pos (by omega), hw, if_neg (by omega), if_pos (by omega), Option.bind_some, rdI_nat l i hil, Int.toNat_natCast, rdI_nat _ i (by rw [List.length_set]; omega), List.getElem_set_self, wrapC i (by omega)]
    by_cases hneg : l[i].tmod (n + 1) < 0
    · have hw2 : wrap64 (l[i].tmod (n + 1) + (n + 1)) = l[i].tmod (n + 1) + (n + 1) := by unfold wrap64; omega
      have hpl : placeOf n l[i] = l[i].tmod (n + 1) + (n + 1) := by unfold placeOf; rw [if_pos hneg]; omega
      rw [if_pos hneg, hw2, List.set_set]
      obtain ⟨k1, k2⟩ := key _ hpl.symm _ rfl
      exact ih k (i + 1) _ (by omega) k2 k1 (by omega)
    · have hpl : placeOf n l[i] = l[i].tmod (n + 1) := by unfold placeOf; rw [if_neg hneg]
      rw [if_neg hneg]
      obtain ⟨k1, k2⟩ := key _ hpl.symm _ rfl
      exact ih k (i + 1) _ (by omega) k2 k1 (by omega)
theorem Cut_eq (n : Int) (l : List Int) (hl : l.length ≤ 17592186043904) (k : Nat) (hk : 1000 < k) : lines_Cut.f k n l = some (cutL n l) := by
  obtain ⟨k, rfl⟩ : ∃ m, k = m + 1 := ⟨k - 1, by omega⟩
  unfold lines_Cut.f cutL
  by_cases h1 : n > 4194304
  · rw [if_pos h1, if_pos (.inl h1), lines_Cut.j0, if_pos rfl]
  · rw [if_neg h1]
    by_cases h2 : l.length ≥ 256
    · rw [decide_eq_true (show (l.length : Int) ≥ 256 by omega), if_pos (.inr h2), lines_Cut.j0, if_pos rfl]
    · rw [decide_eq_false (show ¬ (l.length : Int) ≥ 256 by omega), if_neg (by omega), lines_Cut.j0, if_neg (by decide)]
      by_cases h3 : n < 0
      · rw [if_pos h3, if_pos h3]
      · rw [if_neg h3, if_neg h3, if_pos (Int.natCast_nonneg _), if_pos (by omega), Int.toNat_natCast]
        exact Cut_l0 n (by omega) (by omega) l (by omega) l.length k 0 _ (by omega) (by simp) (by simp) (by omega)
/-! ### the document's -/
theorem sorted_eq {l m : List Int} (hp : l.Perm m) (hl : l.Pairwise (· ≤ ·)) (hm : m.Pairwise (· ≤ ·)) : l = m :=
  hp.eq_of_pairwise (fun a b _ _ h1 h2 => Int.le_antisymm h1 h2) hl hm
theorem sortI_sorted (l : List Int) : (sortI l).Pairwise (· ≤ ·) := by
  have h := List.pairwise_mergeSort (le := fun x y : Int => decide (x ≤ y)) (fun a b c h1 h2 => by simp at *; omega) (fun a b => by simp; omega) l
  exact h.imp (fun h => by simpa using h)
theorem sortI_perm (l : List Int) : (sortI l).Perm l := List.mergeSort_perm _ _
/-- the one at its place among those that rise -/
theorem ins_ok (at_ : List Int) (p : Int) (j : Nat) (hj : j ≤ at_.length) (hs : at_.Pairwise (· ≤ ·)) (hup : ∀ i, j ≤ i → (h : i < at_.length) → p < at_[i]) (hlo : ∀ h : 0 < j, at_[j - 1]'(by omega) ≤ p) :
    (at_.take j ++ [p] ++ at_.drop j).Pairwise (· ≤ ·) ∧ (at_.take j ++ [p] ++ at_.drop j).Perm (at_ ++ [p]) := by
  constructor
  · have hs2 : (at_.take j ++ at_.drop j).Pairwise (· ≤ ·) := by rw [List.take_append_drop]; exact hs
    rw [List.pairwise_append] at hs2
    obtain ⟨a1, a2, a3⟩ := hs2
    have hle : ∀ x ∈ at_.take j, x ≤ p := by
      intro x hx
      obtain ⟨i, hi, rfl⟩ := List.mem_iff_getElem.1 hx
      rw [List.length_take] at hi
      rw [List.getElem_take]
      have h1 := hlo (by omega)
      by_cases e : i = j - 1
      · subst e; exact h1
      · have := List.pairwise_iff_getElem.1 hs i (j - 1) (by omega) (by omega) (by omega)
        omega
    have hgt : ∀ x ∈ at_.drop j, p ≤ x := by
      intro x hx
      obtain ⟨i, hi, rfl⟩ := List.mem_iff_getElem.1 hx
      rw [List.length_drop] at hi
      rw [List.getElem_drop]
      have := hup (j + i) (by omega) (by omega)
      omega
    rw [List.append_assoc, List.pairwise_append]
    refine ⟨a1, ?_, ?_⟩
    · rw [List.singleton_append, List.pairwise_cons]
      exact ⟨hgt, a2⟩
    · intro x hx y hy
      rcases List.mem_append.1 hy with hy | hy
      · rw [List.mem_singleton.1 hy]; exact hle x hx
      · exact a3 x hx y hy
  · have h1 : (at_.take j ++ [p] ++ at_.drop j).Perm (at_.take j ++ (at_.drop j ++ [p])) := by
      rw [List.append_assoc]
      exact List.Perm.append_left _ List.perm_append_comm
    rw [← List.append_assoc, List.take_append_drop] at h1
    exact h1
theorem RefCut_l2 (n : Int) (at_ : List Int) (hn : at_.length ≤ 300) (d : Nat) : ∀ (k i : Nat) (acc : List S33) (f : Int), i + d = at_.length → acc.length + d ≤ 1000 → d < k →
    winnowref13_Cut.l2 k n at_ acc f (i : Int) = some (acc ++ piecesFrom n f (at_.drop i), 0) := by
  induction d with
  | zero =>
    intro k i acc f hi ha hk
    obtain ⟨k, rfl⟩ : ∃ m, k = m + 1 := ⟨k - 1, by omega⟩
    rw [winnowref13_Cut.l2, if_neg (by omega), if_pos (by omega), List.drop_of_length_le (by omega)]
    rfl
  | succ d ih =>
    intro k i acc f hi ha hk
    obtain ⟨k, rfl⟩ : ∃ m, k = m + 1 := ⟨k - 1, by omega⟩
    rw [winnowref13_Cut.l2, if_pos (by omega), if_pos (Int.natCast_nonneg i), if_pos (by omega), rdI_nat _ i (by omega), wrapC i (by omega), ih k (i + 1) _ _ (by omega) (by rw [List.length_append, List.length_singleton]; omega) (by omega), List.drop_eq_getElem_cons (show i < at_.length by omega)]
    simp [piecesFrom]
theorem RefCut_l1 (n : Int) (l at_ : List Int) (x : Int) (p : Int) (hal : at_.length ≤ 300) (hs : at_.Pairwise (· ≤ ·)) : ∀ (j k : Nat), j ≤ at_.length → (∀ i, j ≤ i → (h : i < at_.length) → p < at_[i]) → j < k →
    ∃ (at2 : List Int) (k2 : Nat), k ≤ k2 + j + 1 ∧ k2 < k ∧ at2.Pairwise (· ≤ ·) ∧ at2.Perm (at_ ++ [p]) ∧ winnowref13_Cut.l1 k n l at_ x p (j : Int) = winnowref13_Cut.l0 k2 n l at2 (wrap64 (x + 1)) := by
  intro j
  induction j with
  | zero =>
    intro k hj hup hk
    obtain ⟨k, rfl⟩ : ∃ m, k = m + 1 := ⟨k - 1, by omega⟩
    have hok := ins_ok at_ p 0 (by omega) hs hup (fun h => absurd h (by omega))
    refine ⟨_, k, by omega, by omega, hok.1, hok.2, ?_⟩
    rw [winnowref13_Cut.l1, if_neg (by omega), if_pos (by omega), if_pos (by omega), Option.bind_some, if_pos (by simp), Option.bind_some, if_pos (by simp), Option.bind_some, Option.bind_some, if_pos (by simp; omega)]
    simp
  | succ j ih =>
    intro k hj hup hk
    obtain ⟨k, rfl⟩ : ∃ m, k = m + 1 := ⟨k - 1, by omega⟩
    have hw : wrap64 (((j + 1 : Nat) : Int) - 1) = (j : Int) := by unfold wrap64; omega
    rw [winnowref13_Cut.l1, if_pos (by omega), hw, if_pos (by omega), if_pos (by omega), rdI_nat at_ j (by omega)]
    by_cases h : at_[j] > p
    · rw [if_pos h]
      obtain ⟨at2, k2, q1, q2, q3, q4, q5⟩ := ih k (by omega) (fun i hi hlt => by
        by_cases e : i = j
        · subst e; exact h
        · exact hup i (by omega) hlt) (by omega)
      exact ⟨at2, k2, by omega, by omega, q3, q4, q5⟩
    · rw [if_neg h]
      have hok := ins_ok at_ p (j + 1) (by omega) hs hup (fun _ => by show at_[j] ≤ p; omega)
      refine ⟨_, k, by omega, by omega, hok.1, hok.2, ?_⟩
      have hlen1 : (at_.take (j + 1)).length = j + 1 := by rw [List.length_take]; omega
      rw [if_pos (by omega), if_pos (by omega), Option.bind_some, Int.toNat_natCast, if_pos (by rw [List.length_nil]; omega), Option.bind_some, List.nil_append, if_pos (by omega), Option.bind_some, Option.bind_some, if_pos (by rw [List.length_append, List.length_singleton, List.length_drop]; omega)]
theorem arith_c {k k2 bl i d n : Nat} (q1 : k ≤ k2 + bl + 1) (hbl : bl = i) (hi : i + (d + 1) = n) (hn : n ≤ 255) (hk : 400 * (d + 1 + 1) < k + 1 + 1) : 400 * (d + 1) < k2 := by omega
theorem RefCut_l0 (n : Int) (h0 : 0 ≤ n) (hn : n ≤ 4194304) (l : List Int) (hl : l.length ≤ 255) (d : Nat) : ∀ (k i : Nat) (b : List Int), i + d = l.length → b.Pairwise (· ≤ ·) → b.Perm ((l.take i).map (placeOf n)) → 400 * (d + 1) < k →
    winnowref13_Cut.l0 k n l b (i : Int) = some (piecesFrom n 0 (sortI (l.map (placeOf n))), 0) := by
  have hw : wrap64 (n + 1) = n + 1 := by unfold wrap64; omega
  induction d with
  | zero =>
    intro k i b hi hb ht hk
    obtain ⟨k, rfl⟩ : ∃ m, k = m + 1 := ⟨k - 1, by omega⟩
    rw [List.take_of_length_le (by omega)] at ht
    have hbm : b = sortI (l.map (placeOf n)) := sorted_eq (ht.trans (sortI_perm _).symm) hb (sortI_sorted _)
    have hsl : b.length = l.length := by rw [ht.length_eq, List.length_map]
    rw [winnowref13_Cut.l0, if_neg (by omega)]
    have := RefCut_l2 n b (by omega) b.length k 0 [] 0 (by omega) (by rw [List.length_nil]; omega) (by omega)
    rw [List.drop_zero, List.nil_append] at this
    rw [← hbm]
    exact this
  | succ d ih =>
    intro k i b hi hb ht hk
    obtain ⟨k, rfl⟩ : ∃ m, k = m + 1 := ⟨k - 1, by omega⟩
    obtain ⟨k, rfl⟩ : ∃ m, k = m + 1 := ⟨k - 1, by omega⟩
    have hil : i < l.length := by omega
    have htm := tmod_in n (l[i]) h0
    have hbl : b.length = i := by rw [ht.length_eq, List.length_map, List.length_take]; omega
    have hts : (l.take (i + 1)).map (placeOf n) = (l.take i).map (placeOf n) ++ [placeOf n l[i]] := by rw [List.take_succ_eq_append_getElem hil, List.map_append, List.map_singleton]
    have step : winnowref13_Cut.j2 (k + 1) n l b (i : Int) (placeOf n l[i]) = some (piecesFrom n 0 (sortI (l.map (placeOf n))), 0) := by
      rw [winnowref13_Cut.j2]
      obtain ⟨at2, k2, q1, q2, q3, q4, q5⟩ := RefCut_l1 n l b (i : Int) (placeOf n l[i]) (by omega) hb b.length k (Nat.le_refl _) (fun i h1 h2 => absurd h2 (by omega)) (by omega)
      have e1 : i + 1 + d = l.length := by clear q1 q2 q5 hk htm; omega
      have e2 : 400 * (d + 1) < k2 := arith_c q1 hbl hi hl hk
      rw [q5, wrapC i (by omega)]
      refine ih k2 (i + 1) at2 e1 q3 ?_ e2
      rw [hts]
      exact q4.trans (ht.append_right _)
    rw [winnowref13_Cut.l0, if_pos (by omega), if_pos (Int.natCast_nonneg i), hw, if_neg (by omega), rdI_nat l i hil]
    by_cases hneg : l[i].tmod (n + 1) < 0
    · have hw2 : wrap64 (wrap64 (l[i].tmod (n + 1) + n) + 1) = placeOf n l[i] := by unfold placeOf; rw [if_pos hneg]; unfold wrap64; omega
      rw [if_pos hneg, hw2]
      exact step
    · have hpl : placeOf n l[i] = l[i].tmod (n + 1) := by unfold placeOf; rw [if_neg hneg]
      rw [if_neg hneg, ← hpl]
      exact step
theorem RefCut_eq (n : Int) (l : List Int) (k : Nat) (hk : 200000 < k) : winnowref13_Cut.f k n l = some (cutL n l) := by
  obtain ⟨k, rfl⟩ : ∃ m, k = m + 1 := ⟨k - 1, by omega⟩
  unfold winnowref13_Cut.f cutL
  by_cases h1 : n > 4194304
  · rw [if_pos h1, if_pos (.inl h1), winnowref13_Cut.j0, if_pos rfl]
  · rw [if_neg h1]
    by_cases h2 : l.length ≥ 256
    · rw [decide_eq_true (show (l.length : Int) ≥ 256 by omega), if_pos (.inr h2), winnowref13_Cut.j0, if_pos rfl]
    · rw [decide_eq_false (show ¬ (l.length : Int) ≥ 256 by omega), if_neg (by omega), winnowref13_Cut.j0, if_neg (by decide)]
      by_cases h3 : n < 0
      · rw [if_pos h3, if_pos h3]
      · rw [if_neg h3, if_neg h3]
        exact RefCut_l0 n (by omega) (by omega) l (by omega) l.length k 0 [] (by omega) List.Pairwise.nil (by simp) (by omega)
end Go.Proofs.Ytbcggfjfgoabpaa.P

end
