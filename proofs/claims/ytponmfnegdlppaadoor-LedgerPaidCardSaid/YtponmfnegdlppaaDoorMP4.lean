/- Several texts laid together (wip/tools/merge2.py): HChanged, HKnown. -/
import Derived.Test.YtponmfnegdlppaaDoorMP3
import Derived.Shelf.Abstract
import Derived.Deep.DeepMust
section
/- ledger.state and ledger.changed, by hand (printed by HChanged.gen.py). -/
namespace Go.Proofs.YtponmfnegdlppaaDoor.P
open Go.RowKit Go.Proofs.YtponmfnegdlppaaDoorW.PrintWords Go.Proofs.YtponmfnegdlppaaDoorW.PrintLast Go.Proofs.YtponmfnegdlppaaDoorW.PrintMore
set_option linter.unusedVariables false
set_option linter.unusedSimpArgs false

set_option maxHeartbeats 4000000 in
set_option maxRecDepth 100000 in
theorem state_map (W : World) (gb : Nat) (t : Int) (ad : Addr) (n0 c0 : Nat) (u1 : Value) (fl : Bool) (b : Int) (hb : bookAt W gb t (.slice (some ad) n0 c0) u1 fl) (h0 : 0 ≤ b) (h1 : b < n0) :
    Calls Tryd.prog 55 #[.pointer (some ⟨gb, 0, none⟩), .agg #[.int .i64 0, .int .i64 b]] W fun e w' => e = .returned (.pointer (some (ad.add (b.toNat * 3)))) ∧ Below W.heap.size W w' := by
  have hba := below_alloc (Below.refl W.heap.size W) (.cells #[.int .i64 0, .int .i64 b] 29)
  have hx1 : (W.alloc (.cells #[.int .i64 0, .int .i64 b] 29)).cell? ⟨gb, 1, none⟩ = some (.slice (some ad) n0 c0) := (hba.cell hb.lt).trans hb.c1
  have HBA := Aside0.mk hba
  have hu22 := Tryd.underlying22
  have hu29 := Tryd.underlying29
  have hu24 := Tryd.underlying24
  have hu38 := Tryd.underlying38
  clear hb hba
  have p1 := eq_true h0
  have p2 := eq_true h1
  go_enter Tryd.func55, Tryd.ntmps55
  go_wp2_with fail
  go_quiet (fail)
  go_wp2_with fail
  go_ret
  exact ⟨rfl, by repeat (first | exact HBA.out | apply pw_below_drewN | apply below_drew1)⟩
set_option maxHeartbeats 4000000 in
set_option maxRecDepth 100000 in
theorem state_red (W : World) (gb : Nat) (t : Int) (ad : Addr) (n0 c0 : Nat) (u1 : Value) (fl : Bool) (b : Int) (hb : bookAt W gb t u1 (.slice (some ad) n0 c0) fl) (h0 : 0 ≤ b) (h1 : b < n0) :
    Calls Tryd.prog 55 #[.pointer (some ⟨gb, 0, none⟩), .agg #[.int .i64 1, .int .i64 b]] W fun e w' => e = .returned (.pointer (some (ad.add (b.toNat * 3)))) ∧ Below W.heap.size W w' := by
  have hba := below_alloc (Below.refl W.heap.size W) (.cells #[.int .i64 1, .int .i64 b] 29)
  have hx1 : (W.alloc (.cells #[.int .i64 1, .int .i64 b] 29)).cell? ⟨gb, 2, none⟩ = some (.slice (some ad) n0 c0) := (hba.cell hb.lt).trans hb.c2
  have HBA := Aside0.mk hba
  have hu22 := Tryd.underlying22
  have hu29 := Tryd.underlying29
  have hu24 := Tryd.underlying24
  have hu38 := Tryd.underlying38
  clear hb hba
  have p1 := eq_true h0
  have p2 := eq_true h1
  go_enter Tryd.func55, Tryd.ntmps55
  go_wp2_with fail
  go_quiet (fail)
  go_wp2_with fail
  go_ret
  exact ⟨rfl, by repeat (first | exact HBA.out | apply pw_below_drewN | apply below_drew1)⟩

theorem own_ne {k g n c : Nat} (h : k ≠ g) : some k ≠ (Value.slice (some ⟨g, 0, none⟩) n c).ownBlock := by
  intro e
  have : k = g := by simpa [Value.ownBlock] using e
  exact h this
theorem addr0 (g b : Nat) : (⟨g, 0, none⟩ : Addr).add ((b : Int).toNat * 3) = ⟨g, b * 3, none⟩ := by
  rw [Int.toNat_natCast]
  unfold Addr.add
  by_cases h : b * 3 = 0
  · rw [h]; rfl
  · simp [h]
theorem state_map_own (W : World) (gb : Nat) (t : Int) (g n0 c0 : Nat) (u1 : Value) (fl : Bool) (b : Nat) (hb : bookAt W gb t (.slice (some ⟨g, 0, none⟩) n0 c0) u1 fl) (h1 : b < n0) :
    Calls Tryd.prog 55 #[.pointer (some ⟨gb, 0, none⟩), .agg #[.int .i64 0, .int .i64 b]] W fun e w' => e = .returned (.pointer (some ⟨g, b * 3, none⟩)) ∧ Below W.heap.size W w' := by
  have h := state_map W gb t ⟨g, 0, none⟩ n0 c0 u1 fl b hb (by omega) (by omega)
  rw [addr0] at h
  exact h
theorem state_red_own (W : World) (gb : Nat) (t : Int) (g n0 c0 : Nat) (u1 : Value) (fl : Bool) (b : Nat) (hb : bookAt W gb t u1 (.slice (some ⟨g, 0, none⟩) n0 c0) fl) (h1 : b < n0) :
    Calls Tryd.prog 55 #[.pointer (some ⟨gb, 0, none⟩), .agg #[.int .i64 1, .int .i64 b]] W fun e w' => e = .returned (.pointer (some ⟨g, b * 3, none⟩)) ∧ Below W.heap.size W w' := by
  have h := state_red W gb t ⟨g, 0, none⟩ n0 c0 u1 fl b hb (by omega) (by omega)
  rw [addr0] at h
  exact h
/-- an empty row, new -/
theorem R_none (W : World) (base : Nat) (hb : base ≤ W.heap.size) : Kd.R k38 38 (W.alloc (.cells #[] 38)) base (fun k => W.heap.size ≤ k) (.slice (some ⟨W.heap.size, 0, none⟩) 0 0) [] :=
  ⟨fun k hk => by have : W.heap.size = k := by simpa [Value.ownBlock] using hk
                  omega, [], World.ownsRow_lit (base := base) (e := 38) (size := k38.sz) W #[] 0 hb (by simp [maxLen]) (by simp), Reps.none _ _⟩
theorem taskAt_own {W : World} {base g n c : Nat} {P : Nat → Prop} {l : List S38} (h : Kd.R k38 38 W base P (.slice (some ⟨g, 0, none⟩) n c) l) (i : Nat) (hi : i < n) : taskAt W g (i * 3) (rd_T38 l (i : Int)) := by
  obtain ⟨ce, hcl, hM, hcc, hfr⟩ := Kd.R_elem h z38 (i : Int) (by omega) (by omega)
  obtain rfl := k38_openM hM
  rw [Int.toNat_natCast] at hcc hfr
  have e : l.getD i z38 = rd_T38 l (i : Int) := by unfold rd_T38; rw [Int.toNat_natCast]
  rw [e] at hcc
  exact ⟨hcc 0 _ rfl, hcc 1 _ rfl, hcc 2 _ rfl, hfr 0, hfr 1, hfr 2⟩
theorem R_put4 {W : World} {base g n c gb : Nat} {P : Nat → Prop} {l : List S38} (h : Kd.R k38 38 W base P (.slice (some ⟨g, 0, none⟩) n c) l) (i : Nat) (hi : i < n) (x : S38) (fl : Bool) (hP : ¬ P gb) :
    Kd.R k38 38 (put4 W g (i * 3) x gb fl) base P (.slice (some ⟨g, 0, none⟩) n c) (l.set i x) := by
  obtain ⟨ce, hcl, hM, hcc, hfr⟩ := Kd.R_elem h z38 (i : Int) (by omega) (by omega)
  obtain rfl := k38_openM hM
  have hR := Kd.R_seg h (i : Int) (by omega) (by omega) (seg := [.int .i64 x.f0, .int .i64 x.f1, .int .i64 x.f2]) (j := 0) hcl hcc (show 3 ≤ 3 from by decide) (x' := x) (k38_mkM _ _ _ x) (fun _ hk => hk)
  rw [Int.toNat_natCast] at hR
  exact Kd.R_far hR.1 (fun k hk => by rintro rfl; exact hP hk) _
theorem put4_heap (W : World) (gs off : Nat) (s : S38) (gb : Nat) (fl : Bool) (k : Nat) (h1 : k ≠ gs) (h2 : k ≠ gb) : (put4 W gs off s gb fl).heap[k]? = W.heap[k]? := by
  unfold put4
  rw [Below.heap_setCell _ _ _ _ h2, Below.heap_setCell _ _ _ _ h1, Below.heap_setCell _ _ _ _ h1, Below.heap_setCell _ _ _ _ h1]
theorem R_put4_far {W : World} {base gs off gb : Nat} {P : Nat → Prop} {v : Value} {l : List S38} (h : Kd.R k38 38 W base P v l) (x : S38) (fl : Bool) (h1 : ¬ P gs) (h2 : ¬ P gb) : Kd.R k38 38 (put4 W gs off x gb fl) base P v l :=
  Kd.R_far (Kd.R_far (Kd.R_far (Kd.R_far h (p := ⟨gs, off, none⟩) (fun k hk => by rintro rfl; exact h1 hk) _) (p := ⟨gs, off + 1, none⟩) (fun k hk => by rintro rfl; exact h1 hk) _) (p := ⟨gs, off + 2, none⟩) (fun k hk => by rintro rfl; exact h1 hk) _) (p := ⟨gb, 3, none⟩) (fun k hk => by rintro rfl; exact h2 hk) _
theorem book_put4 {W : World} {gs off gb : Nat} {t : Int} {u0 u1 : Value} {fl : Bool} (h : bookAt W gb t u0 u1 fl) (x : S38) (f : Bool) (hne : gs ≠ gb) : bookAt (put4 W gs off x gb f) gb t u0 u1 f := by
  unfold put4
  refine blk_put (cs := #[.int .i64 t, u0, u1, .bool fl]) ?_ 3 _ rfl
  rw [Below.heap_setCell _ _ _ _ (Ne.symm hne), Below.heap_setCell _ _ _ _ (Ne.symm hne), Below.heap_setCell _ _ _ _ (Ne.symm hne)]
  exact h
theorem below_put4 {w0 W : World} {base gs off gb : Nat} (h : Below base w0 W) (x : S38) (f : Bool) (h1 : base ≤ gs) (h2 : base ≤ gb) : Below base w0 (put4 W gs off x gb f) :=
  (((h.setCell h1 _).setCell h1 _).setCell h1 _).setCell h2 _
theorem size_put4 (W : World) (gs off : Nat) (x : S38) (gb : Nat) (f : Bool) : (put4 W gs off x gb f).heap.size = W.heap.size := by
  unfold put4
  simp

set_option maxHeartbeats 4000000 in
set_option maxRecDepth 100000 in
theorem changed_map (fid : Nat) (cap : Array Value) (hE : Enters Tryd.prog fid) (t : Int) (fl : Bool) (A0 : Option Addr) (c0 : Nat) (l0 : List S38) (A1 : Option Addr) (c1 : Nat) (l1 : List S38) (b : Nat) (s' : S38) (fl' : Bool) (w : World)
    (h0 : Kd.C k38 w A0 l0.length l0) (h1 : Kd.C k38 w A1 l1.length l1) (hl0 : l0.length ≤ 100000) (hl1 : l1.length ≤ 100000) (hb : b < l0.length)
    (hdo : ∀ (W : World) (gb gs off : Nat) (u0 u1 : Value), bookAt W gb t u0 u1 fl → taskAt W gs off (rd_T38 l0 (b : Int)) → gs ≠ gb → w.heap.size ≤ gs → Below w.heap.size w W →
      Calls Tryd.prog fid (#[.pointer (some ⟨gb, 0, none⟩), .pointer (some ⟨gs, off, none⟩)] ++ cap) W fun e w' => e = .returned (.tuple #[]) ∧ ∃ q, w' = (put4 W gs off s' gb fl').drewN q) :
    Calls Tryd.prog 56 #[.agg #[.int .i64 t, .slice A0 l0.length c0, .slice A1 l1.length c1, .bool fl], .agg #[.int .i64 0, .int .i64 b], .func (.func fid) #[] cap] w fun e w' =>
      ∃ v1 v2 : Value, e = .returned (.agg #[.int .i64 t, v1, v2, .bool fl']) ∧ Kd.R k38 38 w' w.heap.size (fun k => some k ≠ v2.ownBlock) v1 (l0.set b s') ∧ Kd.R k38 38 w' w.heap.size (fun k => some k ≠ v1.ownBlock) v2 l1 ∧ Below w.heap.size w w' := by
  have H0 := Aside0.mk h0
  have H1 := Aside0.mk h1
  have HL0 := Aside0.mk hl0
  have HL1 := Aside0.mk hl1
  have HBI := Aside0.mk hb
  have HDO := Aside0.mk hdo
  clear h0 h1 hl0 hl1 hb hdo
  have hu22 := Tryd.underlying22
  have hu29 := Tryd.underlying29
  have hu24 := Tryd.underlying24
  have hu38 := Tryd.underlying38
  have hw3 : ∃ W3, W3 = ((w.alloc (.cells #[.int .i64 t, .slice A0 l0.length c0, .slice A1 l1.length c1, .bool fl] 24)).alloc (.cells #[.int .i64 0, .int .i64 b] 29)).alloc (.cells #[.int .i64 0, .slice none 0 0, .slice none 0 0, .bool false] 24) := ⟨_, rfl⟩
  obtain ⟨W3, hW3⟩ := hw3
  have q0 : Below w.heap.size w W3 := by rw [hW3]; exact below_alloc (below_alloc (below_alloc (Below.refl _ _) _) _) _
  have q1 : W3.heap.size = w.heap.size + 3 := by rw [hW3]; simp
  have q2 : bookAt W3 w.heap.size t (.slice A0 l0.length c0) (.slice A1 l1.length c1) fl := by
    rw [hW3]
    have e1 := heap_alloc_new w (.cells #[.int .i64 t, .slice A0 l0.length c0, .slice A1 l1.length c1, .bool fl] 24)
    exact ((below_alloc (below_alloc (Below.refl _ _) _) _).block w.heap.size (by simp)).trans e1
  have q3 : W3.heap[w.heap.size + 1]? = some (.cells #[.int .i64 0, .int .i64 b] 29 (0, 0)) := by
    rw [hW3]
    have e1 := heap_alloc_new (w.alloc (.cells #[.int .i64 t, .slice A0 l0.length c0, .slice A1 l1.length c1, .bool fl] 24)) (.cells #[.int .i64 0, .int .i64 b] 29)
    rw [show (w.alloc (.cells #[.int .i64 t, .slice A0 l0.length c0, .slice A1 l1.length c1, .bool fl] 24)).heap.size = w.heap.size + 1 from by simp] at e1
    exact ((below_alloc (Below.refl _ _) _).block (w.heap.size + 1) (by simp)).trans e1
  have q4 : W3.heap[w.heap.size + 1 + 1]? = some (.cells #[.int .i64 0, .slice none 0 0, .slice none 0 0, .bool false] 24 (0, 0)) := by
    rw [hW3]
    have e1 := heap_alloc_new ((w.alloc (.cells #[.int .i64 t, .slice A0 l0.length c0, .slice A1 l1.length c1, .bool fl] 24)).alloc (.cells #[.int .i64 0, .int .i64 b] 29)) (.cells #[.int .i64 0, .slice none 0 0, .slice none 0 0, .bool false] 24)
    rw [show ((w.alloc (.cells #[.int .i64 t, .slice A0 l0.length c0, .slice A1 l1.length c1, .bool fl] 24)).alloc (.cells #[.int .i64 0, .int .i64 b] 29)).heap.size = w.heap.size + 1 + 1 from by simp] at e1
    exact e1
  have Q0 := Aside0.mk q0
  have Q1 := Aside0.mk q1
  have Q2 := Aside0.mk q2
  have Q3 := Aside0.mk q3
  have Q4 := Aside0.mk q4
  have HW3 := Aside0.mk hW3
  clear q0 q1 q2 q3 q4 hW3
  go_enter Tryd.func56, Tryd.ntmps56
  go_upto_region 1 with (fail)
  rw [← HW3.out]
  clear HW3
  have hx1 : (W3.alloc (.cells #[] 38)).cell? ⟨w.heap.size, 1, none⟩ = some (.slice A0 l0.length c0) := ((below_alloc (Below.refl _ _) _).cell Q2.out.lt).trans Q2.out.c1
  go_upto_region 2 with ((with_reducible refine gate_builtin (b := .append) (xs := #[.tmp 7, .tmp 9]) rfl ?_); at_builtin; go_must (refine Kd.R_append_rows k38 (w0 := w) w.heap.size rfl (.tmp 7) (.tmp 9) 22 38 (.agg #[(.int .i64 0), (.int .i64 0), (.int .i64 0)]) 24 rfl Tryd.underlying22 info38 rfl (by decide) (by omega) _ [] l0 _ _ _ (fun k => w.heap.size + 3 ≤ k) (fun _ => False) rfl rfl ?aO ?aR (fun _ _ h => h) (fun _ h => h.elim) ?aF ?aB ?aS ?aL ?_; (case aO => exact Kd.R_mono (R_none W3 _ (by have := Q1.out; omega)) (fun k hk => by have := Q1.out; omega)); (case aR => exact Kd.C_below H0.out (below_alloc Q0.out _)); (case aF => exact fun k hk => by (have := Q1.out; simp at hk; omega)); (case aB => exact below_alloc Q0.out _); (case aS => (have := Q1.out; simp; omega)); (case aL => have := HL0.out; simp; omega); intro v1 w1 ho hb hg hat; rw [List.nil_append] at ho; obtain ⟨B0, d0, e0⟩ := Kd.R_slice ho; subst e0; have HO := Aside0.mk ho; have HB1 := Aside0.mk hb; have HK := Aside0.mk (show ∀ k, k < W3.heap.size → w1.heap[k]? = W3.heap[k]? from fun k hk => (hg.block k (by simp; omega) (own_ne (by omega))).trans ((below_alloc (Below.refl _ _) _).block k hk)); clear ho hb hg hat hx1; have HBK := Aside0.mk (show bookAt w1 w.heap.size t (.slice A0 l0.length c0) (.slice A1 l1.length c1) fl from (HK.out _ (by have := Q1.out; omega)).trans Q2.out); have hx1 := HBK.out.c1; have hf1 : w1.frozen? ⟨w.heap.size, 1, none⟩ = false := frozen_of_row _ _ _ _ _ HBK.out))
  obtain ⟨W4, hW4⟩ : ∃ W4, W4 = w1.setCell ⟨w.heap.size, 1, none⟩ (.slice B0 l0.length d0) := ⟨_, rfl⟩
  rw [← hW4]
  have P1 := Aside0.mk (show bookAt W4 w.heap.size t (.slice B0 l0.length d0) (.slice A1 l1.length c1) fl from by rw [hW4]; exact blk_put (cs := #[.int .i64 t, .slice A0 l0.length c0, .slice A1 l1.length c1, .bool fl]) HBK.out 1 _ rfl)
  have PS := Aside0.mk (show w.heap.size + 3 ≤ W4.heap.size from by
    have h1 := HBK.out.lt
    have h2 := (Array.getElem?_eq_some_iff.1 ((HK.out (w.heap.size + 1 + 1) (by have := Q1.out; omega)).trans Q4.out)).1
    rw [hW4]
    simp
    omega)
  have P2 := Aside0.mk (show W4.heap[w.heap.size + 1]? = some (.cells #[.int .i64 0, .int .i64 b] 29 (0, 0)) from by rw [hW4, Below.heap_setCell _ _ _ _ (show w.heap.size + 1 ≠ w.heap.size by omega)]; exact (HK.out _ (by have := Q1.out; omega)).trans Q3.out)
  have P3 := Aside0.mk (show W4.heap[w.heap.size + 1 + 1]? = some (.cells #[.int .i64 0, .slice none 0 0, .slice none 0 0, .bool false] 24 (0, 0)) from by rw [hW4, Below.heap_setCell _ _ _ _ (show w.heap.size + 1 + 1 ≠ w.heap.size by omega)]; exact (HK.out _ (by have := Q1.out; omega)).trans Q4.out)
  have P4 := Aside0.mk (show Kd.R k38 38 W4 w.heap.size (fun k => w.heap.size + 3 ≤ k ∧ k < W4.heap.size) (.slice B0 l0.length d0) l0 from by
    have e : W4.heap.size = w1.heap.size := by rw [hW4]; simp
    rw [e, hW4]
    exact Kd.R_far (Kd.R_mono (Kd.R_bound HO.out) (fun k hk => ⟨hk.1, hk.2.2.1⟩)) (fun k hk => by have := hk.1; simp; omega) _)
  have P5 := Aside0.mk (show Below w.heap.size w W4 from by rw [hW4]; exact HB1.out.setCell (Nat.le_refl _) _)
  clear hW4 HBK hx1 hf1 HO HB1 HK Q0 Q1 Q2 Q3 Q4
  have hx2 : (W4.alloc (.cells #[] 38)).cell? ⟨w.heap.size, 2, none⟩ = some (.slice A1 l1.length c1) := ((below_alloc (Below.refl _ _) _).cell P1.out.lt).trans P1.out.c2
  go_upto_region 3 with ((with_reducible refine gate_builtin (b := .append) (xs := #[.tmp 12, .tmp 14]) rfl ?_); at_builtin; go_must (refine Kd.R_append_rows k38 (w0 := w) w.heap.size rfl (.tmp 12) (.tmp 14) 22 38 (.agg #[(.int .i64 0), (.int .i64 0), (.int .i64 0)]) 24 rfl Tryd.underlying22 info38 rfl (by decide) (by omega) _ [] l1 _ _ _ (fun k => W4.heap.size ≤ k) (fun _ => False) rfl rfl ?aO ?aR (fun _ _ h => h) (fun _ h => h.elim) ?aF ?aB ?aS ?aL ?_; (case aO => exact R_none W4 _ (by have := PS.out; omega)); (case aR => exact Kd.C_below H1.out (below_alloc P5.out _)); (case aF => exact fun k hk => by (simp at hk; omega)); (case aB => exact below_alloc P5.out _); (case aS => (have := PS.out; simp; omega)); (case aL => have := HL1.out; simp; omega); intro v1 w1 ho hb hg hat; rw [List.nil_append] at ho; obtain ⟨B1, d1, e0⟩ := Kd.R_slice ho; subst e0; have HO := Aside0.mk ho; have HB1 := Aside0.mk hb; have HR1 := Aside0.mk (Kd.R_grown (Kd.R_alloc P4.out _) hg (fun k hk => own_ne (by have := hk.2; omega))); have HK := Aside0.mk (show ∀ k, k < W4.heap.size → w1.heap[k]? = W4.heap[k]? from fun k hk => (hg.block k (by simp; omega) (own_ne (by omega))).trans ((below_alloc (Below.refl _ _) _).block k hk)); clear ho hb hg hat hx2; have HBK := Aside0.mk (show bookAt w1 w.heap.size t (.slice B0 l0.length d0) (.slice A1 l1.length c1) fl from (HK.out _ P1.out.lt).trans P1.out); have hx2 := HBK.out.c2; have hf2 : w1.frozen? ⟨w.heap.size, 2, none⟩ = false := frozen_of_row _ _ _ _ _ HBK.out))
  obtain ⟨W5, hW5⟩ : ∃ W5, W5 = w1.setCell ⟨w.heap.size, 2, none⟩ (.slice B1 l1.length d1) := ⟨_, rfl⟩
  rw [← hW5]
  have R1 := Aside0.mk (show bookAt W5 w.heap.size t (.slice B0 l0.length d0) (.slice B1 l1.length d1) fl from by rw [hW5]; exact blk_put (cs := #[.int .i64 t, .slice B0 l0.length d0, .slice A1 l1.length c1, .bool fl]) HBK.out 2 _ rfl)
  have R2 := Aside0.mk (show W5.heap[w.heap.size + 1]? = some (.cells #[.int .i64 0, .int .i64 b] 29 (0, 0)) from by rw [hW5, Below.heap_setCell _ _ _ _ (show w.heap.size + 1 ≠ w.heap.size by omega)]; exact (HK.out _ (by have := PS.out; omega)).trans P2.out)
  have R3 := Aside0.mk (show W5.heap[w.heap.size + 1 + 1]? = some (.cells #[.int .i64 0, .slice none 0 0, .slice none 0 0, .bool false] 24 (0, 0)) from by rw [hW5, Below.heap_setCell _ _ _ _ (show w.heap.size + 1 + 1 ≠ w.heap.size by omega)]; exact (HK.out _ (by have := PS.out; omega)).trans P3.out)
  have R4 := Aside0.mk (show Kd.R k38 38 W5 w.heap.size (fun k => w.heap.size + 3 ≤ k ∧ k < W4.heap.size) (.slice B0 l0.length d0) l0 from by
    rw [hW5]
    exact Kd.R_far HR1.out (fun k hk => by have := hk.1; simp; omega) _)
  have R5 := Aside0.mk (show Kd.R k38 38 W5 w.heap.size (fun k => W4.heap.size ≤ k) (.slice B1 l1.length d1) l1 from by
    rw [hW5]
    exact Kd.R_far HO.out (fun k hk => by have := PS.out; simp; omega) _)
  have R6 := Aside0.mk (show Below w.heap.size w W5 from by rw [hW5]; exact HB1.out.setCell (Nat.le_refl _) _)
  clear hW5 HBK hx2 hf2 HO HB1 HK HR1 P1 P2 P3 P4 P5
  have hy0 : W5.cell? ⟨w.heap.size + 1, 0, none⟩ = some (.int .i64 0) := by rw [cell_of_row _ _ _ _ _ _ R2.out]; rfl
  have hy1 : W5.cell? ⟨w.heap.size + 1, 1, none⟩ = some (.int .i64 b) := by rw [cell_of_row _ _ _ _ _ _ R2.out]; rfl
  obtain ⟨g, cg, eg, hg1, hg2, _⟩ := Kd.R_form R4.out (by have := HBI.out; omega)
  injection eg with eg1 eg2 eg3
  subst eg1 eg3
  have hE' : ∀ (args : Array Value) (w : World), Sem.run Tryd.prog (callFunc fid args) w = .ok (.enter fid args) w := hE
  go_wp2_with (go_at_call 55; refine (state_map_own W5 w.heap.size t g _ _ _ fl b R1.out HBI.out).mono ?_; rintro e W6 ⟨rfl, hB6⟩; have S1 := Aside0.mk (R1.out.below hB6 R1.out.lt); have S2 := Aside0.mk ((hB6.block _ (Array.getElem?_eq_some_iff.1 R3.out).1).trans R3.out); have S4 := Aside0.mk (Kd.R_below R4.out hB6); have S5 := Aside0.mk (Kd.R_below R5.out hB6); have S6 := Aside0.mk (below_step R6.out hB6); clear R1 R2 R3 R4 R5 R6 hB6 hy0 hy1)
  have hgo := S4.out.1 g rfl
  have hps := PS.out
  have hbi := HBI.out
  refine (HDO.out W6 w.heap.size g (b * 3) _ _ S1.out (taskAt_own S4.out b HBI.out) (by omega) (by omega) S6.out).mono ?_
  rintro e W7 ⟨rfl, q, hW7⟩
  have T1 := Aside0.mk (show bookAt W7 w.heap.size t _ _ fl' from by rw [hW7]; exact book_put4 S1.out s' fl' (by omega))
  have T2 := Aside0.mk (show W7.heap[w.heap.size + 1 + 1]? = some (.cells #[.int .i64 0, .slice none 0 0, .slice none 0 0, .bool false] 24 (0, 0)) from by
    rw [hW7]
    exact (put4_heap W6 g (b * 3) s' w.heap.size fl' _ (by omega) (by omega)).trans S2.out)
  have T4 := Aside0.mk (show Kd.R k38 38 W7 w.heap.size (fun k => w.heap.size + 3 ≤ k ∧ k < W4.heap.size) _ (l0.set b s') from by
    rw [hW7]
    exact Kd.R_drewN (R_put4 S4.out b hbi s' fl' (fun h => by have := h.1; omega)) q)
  have T5 := Aside0.mk (show Kd.R k38 38 W7 w.heap.size (fun k => W4.heap.size ≤ k) _ l1 from by
    rw [hW7]
    exact Kd.R_drewN (R_put4_far S5.out s' fl' (fun h => by have := hgo.2; omega) (fun h => by omega)) q)
  have T6 := Aside0.mk (show Below w.heap.size w W7 from by rw [hW7]; exact pw_below_drewN (below_put4 S6.out s' fl' (by omega) (Nat.le_refl _)) q)
  clear hW7 S1 S2 S4 S5 S6
  have hz0 := T1.out.c0
  have hz1 := T1.out.c1
  have hz2 := T1.out.c2
  have hz3 := T1.out.c3
  have hc0 : W7.cell? ⟨w.heap.size + 1 + 1, 0, none⟩ = some (.int .i64 0) := by rw [cell_of_row _ _ _ _ _ _ T2.out]; rfl
  have hc1 : W7.cell? ⟨w.heap.size + 1 + 1, 1, none⟩ = some (.slice none 0 0) := by rw [cell_of_row _ _ _ _ _ _ T2.out]; rfl
  have hc2 : W7.cell? ⟨w.heap.size + 1 + 1, 2, none⟩ = some (.slice none 0 0) := by rw [cell_of_row _ _ _ _ _ _ T2.out]; rfl
  have hc3 : W7.cell? ⟨w.heap.size + 1 + 1, 3, none⟩ = some (.bool false) := by rw [cell_of_row _ _ _ _ _ _ T2.out]; rfl
  have hf0 : W7.frozen? ⟨w.heap.size + 1 + 1, 0, none⟩ = false := frozen_of_row _ _ _ _ _ T2.out
  have hf1 : W7.frozen? ⟨w.heap.size + 1 + 1, 1, none⟩ = false := frozen_of_row _ _ _ _ _ T2.out
  have hf2 : W7.frozen? ⟨w.heap.size + 1 + 1, 2, none⟩ = false := frozen_of_row _ _ _ _ _ T2.out
  have hf3 : W7.frozen? ⟨w.heap.size + 1 + 1, 3, none⟩ = false := frozen_of_row _ _ _ _ _ T2.out
  clear hgo hps hbi
  go_wp2_with fail
  refine bodyPost_ret (results_cell_row rfl _ _ (w.heap.size + 1 + 1) 24 #[.int .i64 t, .slice (some ⟨g, 0, none⟩) l0.length d0, .slice B1 l1.length d1, .bool fl'] (0, 0) _ rfl (by refine blk_put (cs := #[.int .i64 t, .slice (some ⟨g, 0, none⟩) l0.length d0, .slice B1 l1.length d1, .bool false]) ?_ 3 _ rfl; refine blk_put (cs := #[.int .i64 t, .slice (some ⟨g, 0, none⟩) l0.length d0, .slice none 0 0, .bool false]) ?_ 2 _ rfl; refine blk_put (cs := #[.int .i64 t, .slice none 0 0, .slice none 0 0, .bool false]) ?_ 1 _ rfl; refine blk_put (cs := #[.int .i64 0, .slice none 0 0, .slice none 0 0, .bool false]) ?_ 0 _ rfl; exact T2.out) Tryd.underlying24 rfl (by kernel_rfl)) rfl ?_
  have hps := PS.out
  refine ⟨_, _, rfl, ?_, ?_, (((T6.out.setCell (by simp; omega) _).setCell (by simp; omega) _).setCell (by simp; omega) _).setCell (by simp; omega) _⟩
  · exact Kd.R_mono (Kd.R_far (p := ⟨w.heap.size + 1 + 1, 3, none⟩) (Kd.R_far (p := ⟨w.heap.size + 1 + 1, 2, none⟩) (Kd.R_far (p := ⟨w.heap.size + 1 + 1, 1, none⟩) (Kd.R_far (p := ⟨w.heap.size + 1 + 1, 0, none⟩) T4.out (fun k hk => by have := hk.1; simp; omega) _) (fun k hk => by have := hk.1; simp; omega) _) (fun k hk => by have := hk.1; simp; omega) _) (fun k hk => by have := hk.1; simp; omega) _) (fun k hk e => by have := T5.out.1 k e.symm; have := hk.2; omega)
  · exact Kd.R_mono (Kd.R_far (p := ⟨w.heap.size + 1 + 1, 3, none⟩) (Kd.R_far (p := ⟨w.heap.size + 1 + 1, 2, none⟩) (Kd.R_far (p := ⟨w.heap.size + 1 + 1, 1, none⟩) (Kd.R_far (p := ⟨w.heap.size + 1 + 1, 0, none⟩) T5.out (fun k hk => by simp; omega) _) (fun k hk => by simp; omega) _) (fun k hk => by simp; omega) _) (fun k hk => by simp; omega) _) (fun k hk e => by have := (T4.out.1 k e.symm).2; omega)

set_option maxHeartbeats 4000000 in
set_option maxRecDepth 100000 in
theorem changed_red (fid : Nat) (cap : Array Value) (hE : Enters Tryd.prog fid) (t : Int) (fl : Bool) (A0 : Option Addr) (c0 : Nat) (l0 : List S38) (A1 : Option Addr) (c1 : Nat) (l1 : List S38) (b : Nat) (s' : S38) (fl' : Bool) (w : World)
    (h0 : Kd.C k38 w A0 l0.length l0) (h1 : Kd.C k38 w A1 l1.length l1) (hl0 : l0.length ≤ 100000) (hl1 : l1.length ≤ 100000) (hb : b < l1.length)
    (hdo : ∀ (W : World) (gb gs off : Nat) (u0 u1 : Value), bookAt W gb t u0 u1 fl → taskAt W gs off (rd_T38 l1 (b : Int)) → gs ≠ gb → w.heap.size ≤ gs → Below w.heap.size w W →
      Calls Tryd.prog fid (#[.pointer (some ⟨gb, 0, none⟩), .pointer (some ⟨gs, off, none⟩)] ++ cap) W fun e w' => e = .returned (.tuple #[]) ∧ ∃ q, w' = (put4 W gs off s' gb fl').drewN q) :
    Calls Tryd.prog 56 #[.agg #[.int .i64 t, .slice A0 l0.length c0, .slice A1 l1.length c1, .bool fl], .agg #[.int .i64 1, .int .i64 b], .func (.func fid) #[] cap] w fun e w' =>
      ∃ v1 v2 : Value, e = .returned (.agg #[.int .i64 t, v1, v2, .bool fl']) ∧ Kd.R k38 38 w' w.heap.size (fun k => some k ≠ v2.ownBlock) v1 l0 ∧ Kd.R k38 38 w' w.heap.size (fun k => some k ≠ v1.ownBlock) v2 (l1.set b s') ∧ Below w.heap.size w w' := by
  have H0 := Aside0.mk h0
  have H1 := Aside0.mk h1
  have HL0 := Aside0.mk hl0
  have HL1 := Aside0.mk hl1
  have HBI := Aside0.mk hb
  have HDO := Aside0.mk hdo
  clear h0 h1 hl0 hl1 hb hdo
  have hu22 := Tryd.underlying22
  have hu29 := Tryd.underlying29
  have hu24 := Tryd.underlying24
  have hu38 := Tryd.underlying38
  have hw3 : ∃ W3, W3 = ((w.alloc (.cells #[.int .i64 t, .slice A0 l0.length c0, .slice A1 l1.length c1, .bool fl] 24)).alloc (.cells #[.int .i64 1, .int .i64 b] 29)).alloc (.cells #[.int .i64 0, .slice none 0 0, .slice none 0 0, .bool false] 24) := ⟨_, rfl⟩
  obtain ⟨W3, hW3⟩ := hw3
  have q0 : Below w.heap.size w W3 := by rw [hW3]; exact below_alloc (below_alloc (below_alloc (Below.refl _ _) _) _) _
  have q1 : W3.heap.size = w.heap.size + 3 := by rw [hW3]; simp
  have q2 : bookAt W3 w.heap.size t (.slice A0 l0.length c0) (.slice A1 l1.length c1) fl := by
    rw [hW3]
    have e1 := heap_alloc_new w (.cells #[.int .i64 t, .slice A0 l0.length c0, .slice A1 l1.length c1, .bool fl] 24)
    exact ((below_alloc (below_alloc (Below.refl _ _) _) _).block w.heap.size (by simp)).trans e1
  have q3 : W3.heap[w.heap.size + 1]? = some (.cells #[.int .i64 1, .int .i64 b] 29 (0, 0)) := by
    rw [hW3]
    have e1 := heap_alloc_new (w.alloc (.cells #[.int .i64 t, .slice A0 l0.length c0, .slice A1 l1.length c1, .bool fl] 24)) (.cells #[.int .i64 1, .int .i64 b] 29)
    rw [show (w.alloc (.cells #[.int .i64 t, .slice A0 l0.length c0, .slice A1 l1.length c1, .bool fl] 24)).heap.size = w.heap.size + 1 from by simp] at e1
    exact ((below_alloc (Below.refl _ _) _).block (w.heap.size + 1) (by simp)).trans e1
  have q4 : W3.heap[w.heap.size + 1 + 1]? = some (.cells #[.int .i64 0, .slice none 0 0, .slice none 0 0, .bool false] 24 (0, 0)) := by
    rw [hW3]
    have e1 := heap_alloc_new ((w.alloc (.cells #[.int .i64 t, .slice A0 l0.length c0, .slice A1 l1.length c1, .bool fl] 24)).alloc (.cells #[.int .i64 1, .int .i64 b] 29)) (.cells #[.int .i64 0, .slice none 0 0, .slice none 0 0, .bool false] 24)
    rw [show ((w.alloc (.cells #[.int .i64 t, .slice A0 l0.length c0, .slice A1 l1.length c1, .bool fl] 24)).alloc (.cells #[.int .i64 1, .int .i64 b] 29)).heap.size = w.heap.size + 1 + 1 from by simp] at e1
    exact e1
  have Q0 := Aside0.mk q0
  have Q1 := Aside0.mk q1
  have Q2 := Aside0.mk q2
  have Q3 := Aside0.mk q3
  have Q4 := Aside0.mk q4
  have HW3 := Aside0.mk hW3
  clear q0 q1 q2 q3 q4 hW3
  go_enter Tryd.func56, Tryd.ntmps56
  go_upto_region 1 with (fail)
  rw [← HW3.out]
  clear HW3
  have hx1 : (W3.alloc (.cells #[] 38)).cell? ⟨w.heap.size, 1, none⟩ = some (.slice A0 l0.length c0) := ((below_alloc (Below.refl _ _) _).cell Q2.out.lt).trans Q2.out.c1
  go_upto_region 2 with ((with_reducible refine gate_builtin (b := .append) (xs := #[.tmp 7, .tmp 9]) rfl ?_); at_builtin; go_must (refine Kd.R_append_rows k38 (w0 := w) w.heap.size rfl (.tmp 7) (.tmp 9) 22 38 (.agg #[(.int .i64 0), (.int .i64 0), (.int .i64 0)]) 24 rfl Tryd.underlying22 info38 rfl (by decide) (by omega) _ [] l0 _ _ _ (fun k => w.heap.size + 3 ≤ k) (fun _ => False) rfl rfl ?aO ?aR (fun _ _ h => h) (fun _ h => h.elim) ?aF ?aB ?aS ?aL ?_; (case aO => exact Kd.R_mono (R_none W3 _ (by have := Q1.out; omega)) (fun k hk => by have := Q1.out; omega)); (case aR => exact Kd.C_below H0.out (below_alloc Q0.out _)); (case aF => exact fun k hk => by (have := Q1.out; simp at hk; omega)); (case aB => exact below_alloc Q0.out _); (case aS => (have := Q1.out; simp; omega)); (case aL => have := HL0.out; simp; omega); intro v1 w1 ho hb hg hat; rw [List.nil_append] at ho; obtain ⟨B0, d0, e0⟩ := Kd.R_slice ho; subst e0; have HO := Aside0.mk ho; have HB1 := Aside0.mk hb; have HK := Aside0.mk (show ∀ k, k < W3.heap.size → w1.heap[k]? = W3.heap[k]? from fun k hk => (hg.block k (by simp; omega) (own_ne (by omega))).trans ((below_alloc (Below.refl _ _) _).block k hk)); clear ho hb hg hat hx1; have HBK := Aside0.mk (show bookAt w1 w.heap.size t (.slice A0 l0.length c0) (.slice A1 l1.length c1) fl from (HK.out _ (by have := Q1.out; omega)).trans Q2.out); have hx1 := HBK.out.c1; have hf1 : w1.frozen? ⟨w.heap.size, 1, none⟩ = false := frozen_of_row _ _ _ _ _ HBK.out))
  obtain ⟨W4, hW4⟩ : ∃ W4, W4 = w1.setCell ⟨w.heap.size, 1, none⟩ (.slice B0 l0.length d0) := ⟨_, rfl⟩
  rw [← hW4]
  have P1 := Aside0.mk (show bookAt W4 w.heap.size t (.slice B0 l0.length d0) (.slice A1 l1.length c1) fl from by rw [hW4]; exact blk_put (cs := #[.int .i64 t, .slice A0 l0.length c0, .slice A1 l1.length c1, .bool fl]) HBK.out 1 _ rfl)
  have PS := Aside0.mk (show w.heap.size + 3 ≤ W4.heap.size from by
    have h1 := HBK.out.lt
    have h2 := (Array.getElem?_eq_some_iff.1 ((HK.out (w.heap.size + 1 + 1) (by have := Q1.out; omega)).trans Q4.out)).1
    rw [hW4]
    simp
    omega)
  have P2 := Aside0.mk (show W4.heap[w.heap.size + 1]? = some (.cells #[.int .i64 1, .int .i64 b] 29 (0, 0)) from by rw [hW4, Below.heap_setCell _ _ _ _ (show w.heap.size + 1 ≠ w.heap.size by omega)]; exact (HK.out _ (by have := Q1.out; omega)).trans Q3.out)
  have P3 := Aside0.mk (show W4.heap[w.heap.size + 1 + 1]? = some (.cells #[.int .i64 0, .slice none 0 0, .slice none 0 0, .bool false] 24 (0, 0)) from by rw [hW4, Below.heap_setCell _ _ _ _ (show w.heap.size + 1 + 1 ≠ w.heap.size by omega)]; exact (HK.out _ (by have := Q1.out; omega)).trans Q4.out)
  have P4 := Aside0.mk (show Kd.R k38 38 W4 w.heap.size (fun k => w.heap.size + 3 ≤ k ∧ k < W4.heap.size) (.slice B0 l0.length d0) l0 from by
    have e : W4.heap.size = w1.heap.size := by rw [hW4]; simp
    rw [e, hW4]
    exact Kd.R_far (Kd.R_mono (Kd.R_bound HO.out) (fun k hk => ⟨hk.1, hk.2.2.1⟩)) (fun k hk => by have := hk.1; simp; omega) _)
  have P5 := Aside0.mk (show Below w.heap.size w W4 from by rw [hW4]; exact HB1.out.setCell (Nat.le_refl _) _)
  clear hW4 HBK hx1 hf1 HO HB1 HK Q0 Q1 Q2 Q3 Q4
  have hx2 : (W4.alloc (.cells #[] 38)).cell? ⟨w.heap.size, 2, none⟩ = some (.slice A1 l1.length c1) := ((below_alloc (Below.refl _ _) _).cell P1.out.lt).trans P1.out.c2
  go_upto_region 3 with ((with_reducible refine gate_builtin (b := .append) (xs := #[.tmp 12, .tmp 14]) rfl ?_); at_builtin; go_must (refine Kd.R_append_rows k38 (w0 := w) w.heap.size rfl (.tmp 12) (.tmp 14) 22 38 (.agg #[(.int .i64 0), (.int .i64 0), (.int .i64 0)]) 24 rfl Tryd.underlying22 info38 rfl (by decide) (by omega) _ [] l1 _ _ _ (fun k => W4.heap.size ≤ k) (fun _ => False) rfl rfl ?aO ?aR (fun _ _ h => h) (fun _ h => h.elim) ?aF ?aB ?aS ?aL ?_; (case aO => exact R_none W4 _ (by have := PS.out; omega)); (case aR => exact Kd.C_below H1.out (below_alloc P5.out _)); (case aF => exact fun k hk => by (simp at hk; omega)); (case aB => exact below_alloc P5.out _); (case aS => (have := PS.out; simp; omega)); (case aL => have := HL1.out; simp; omega); intro v1 w1 ho hb hg hat; rw [List.nil_append] at ho; obtain ⟨B1, d1, e0⟩ := Kd.R_slice ho; subst e0; have HO := Aside0.mk ho; have HB1 := Aside0.mk hb; have HR1 := Aside0.mk (Kd.R_grown (Kd.R_alloc P4.out _) hg (fun k hk => own_ne (by have := hk.2; omega))); have HK := Aside0.mk (show ∀ k, k < W4.heap.size → w1.heap[k]? = W4.heap[k]? from fun k hk => (hg.block k (by simp; omega) (own_ne (by omega))).trans ((below_alloc (Below.refl _ _) _).block k hk)); clear ho hb hg hat hx2; have HBK := Aside0.mk (show bookAt w1 w.heap.size t (.slice B0 l0.length d0) (.slice A1 l1.length c1) fl from (HK.out _ P1.out.lt).trans P1.out); have hx2 := HBK.out.c2; have hf2 : w1.frozen? ⟨w.heap.size, 2, none⟩ = false := frozen_of_row _ _ _ _ _ HBK.out))
  obtain ⟨W5, hW5⟩ : ∃ W5, W5 = w1.setCell ⟨w.heap.size, 2, none⟩ (.slice B1 l1.length d1) := ⟨_, rfl⟩
  rw [← hW5]
  have R1 := Aside0.mk (show bookAt W5 w.heap.size t (.slice B0 l0.length d0) (.slice B1 l1.length d1) fl from by rw [hW5]; exact blk_put (cs := #[.int .i64 t, .slice B0 l0.length d0, .slice A1 l1.length c1, .bool fl]) HBK.out 2 _ rfl)
  have R2 := Aside0.mk (show W5.heap[w.heap.size + 1]? = some (.cells #[.int .i64 1, .int .i64 b] 29 (0, 0)) from by rw [hW5, Below.heap_setCell _ _ _ _ (show w.heap.size + 1 ≠ w.heap.size by omega)]; exact (HK.out _ (by have := PS.out; omega)).trans P2.out)
  have R3 := Aside0.mk (show W5.heap[w.heap.size + 1 + 1]? = some (.cells #[.int .i64 0, .slice none 0 0, .slice none 0 0, .bool false] 24 (0, 0)) from by rw [hW5, Below.heap_setCell _ _ _ _ (show w.heap.size + 1 + 1 ≠ w.heap.size by omega)]; exact (HK.out _ (by have := PS.out; omega)).trans P3.out)
  have R4 := Aside0.mk (show Kd.R k38 38 W5 w.heap.size (fun k => w.heap.size + 3 ≤ k ∧ k < W4.heap.size) (.slice B0 l0.length d0) l0 from by
    rw [hW5]
    exact Kd.R_far HR1.out (fun k hk => by have := hk.1; simp; omega) _)
  have R5 := Aside0.mk (show Kd.R k38 38 W5 w.heap.size (fun k => W4.heap.size ≤ k) (.slice B1 l1.length d1) l1 from by
    rw [hW5]
    exact Kd.R_far HO.out (fun k hk => by have := PS.out; simp; omega) _)
  have R6 := Aside0.mk (show Below w.heap.size w W5 from by rw [hW5]; exact HB1.out.setCell (Nat.le_refl _) _)
  clear hW5 HBK hx2 hf2 HO HB1 HK HR1 P1 P2 P3 P4 P5
  have hy0 : W5.cell? ⟨w.heap.size + 1, 0, none⟩ = some (.int .i64 1) := by rw [cell_of_row _ _ _ _ _ _ R2.out]; rfl
  have hy1 : W5.cell? ⟨w.heap.size + 1, 1, none⟩ = some (.int .i64 b) := by rw [cell_of_row _ _ _ _ _ _ R2.out]; rfl
  obtain ⟨g, cg, eg, hg1, hg2, _⟩ := Kd.R_form R5.out (by have := HBI.out; omega)
  injection eg with eg1 eg2 eg3
  subst eg1 eg3
  have hE' : ∀ (args : Array Value) (w : World), Sem.run Tryd.prog (callFunc fid args) w = .ok (.enter fid args) w := hE
  go_wp2_with (go_at_call 55; refine (state_red_own W5 w.heap.size t g _ _ _ fl b R1.out HBI.out).mono ?_; rintro e W6 ⟨rfl, hB6⟩; have S1 := Aside0.mk (R1.out.below hB6 R1.out.lt); have S2 := Aside0.mk ((hB6.block _ (Array.getElem?_eq_some_iff.1 R3.out).1).trans R3.out); have S4 := Aside0.mk (Kd.R_below R4.out hB6); have S5 := Aside0.mk (Kd.R_below R5.out hB6); have S6 := Aside0.mk (below_step R6.out hB6); clear R1 R2 R3 R4 R5 R6 hB6 hy0 hy1)
  have hgo := S5.out.1 g rfl
  have hps := PS.out
  have hbi := HBI.out
  refine (HDO.out W6 w.heap.size g (b * 3) _ _ S1.out (taskAt_own S5.out b HBI.out) (by omega) (by omega) S6.out).mono ?_
  rintro e W7 ⟨rfl, q, hW7⟩
  have T1 := Aside0.mk (show bookAt W7 w.heap.size t _ _ fl' from by rw [hW7]; exact book_put4 S1.out s' fl' (by omega))
  have T2 := Aside0.mk (show W7.heap[w.heap.size + 1 + 1]? = some (.cells #[.int .i64 0, .slice none 0 0, .slice none 0 0, .bool false] 24 (0, 0)) from by
    rw [hW7]
    exact (put4_heap W6 g (b * 3) s' w.heap.size fl' _ (by omega) (by omega)).trans S2.out)
  have T4 := Aside0.mk (show Kd.R k38 38 W7 w.heap.size (fun k => w.heap.size + 3 ≤ k ∧ k < W4.heap.size) _ l0 from by
    rw [hW7]
    exact Kd.R_drewN (R_put4_far S4.out s' fl' (fun h => by have := h.2; omega) (fun h => by have := h.1; omega)) q)
  have T5 := Aside0.mk (show Kd.R k38 38 W7 w.heap.size (fun k => W4.heap.size ≤ k) _ (l1.set b s') from by
    rw [hW7]
    exact Kd.R_drewN (R_put4 S5.out b hbi s' fl' (fun h => by omega)) q)
  have T6 := Aside0.mk (show Below w.heap.size w W7 from by rw [hW7]; exact pw_below_drewN (below_put4 S6.out s' fl' (by omega) (Nat.le_refl _)) q)
  clear hW7 S1 S2 S4 S5 S6
  have hz0 := T1.out.c0
  have hz1 := T1.out.c1
  have hz2 := T1.out.c2
  have hz3 := T1.out.c3
  have hc0 : W7.cell? ⟨w.heap.size + 1 + 1, 0, none⟩ = some (.int .i64 0) := by rw [cell_of_row _ _ _ _ _ _ T2.out]; rfl
  have hc1 : W7.cell? ⟨w.heap.size + 1 + 1, 1, none⟩ = some (.slice none 0 0) := by rw [cell_of_row _ _ _ _ _ _ T2.out]; rfl
  have hc2 : W7.cell? ⟨w.heap.size + 1 + 1, 2, none⟩ = some (.slice none 0 0) := by rw [cell_of_row _ _ _ _ _ _ T2.out]; rfl
  have hc3 : W7.cell? ⟨w.heap.size + 1 + 1, 3, none⟩ = some (.bool false) := by rw [cell_of_row _ _ _ _ _ _ T2.out]; rfl
  have hf0 : W7.frozen? ⟨w.heap.size + 1 + 1, 0, none⟩ = false := frozen_of_row _ _ _ _ _ T2.out
  have hf1 : W7.frozen? ⟨w.heap.size + 1 + 1, 1, none⟩ = false := frozen_of_row _ _ _ _ _ T2.out
  have hf2 : W7.frozen? ⟨w.heap.size + 1 + 1, 2, none⟩ = false := frozen_of_row _ _ _ _ _ T2.out
  have hf3 : W7.frozen? ⟨w.heap.size + 1 + 1, 3, none⟩ = false := frozen_of_row _ _ _ _ _ T2.out
  clear hgo hps hbi
  go_wp2_with fail
  refine bodyPost_ret (results_cell_row rfl _ _ (w.heap.size + 1 + 1) 24 #[.int .i64 t, .slice B0 l0.length d0, .slice (some ⟨g, 0, none⟩) l1.length d1, .bool fl'] (0, 0) _ rfl (by refine blk_put (cs := #[.int .i64 t, .slice B0 l0.length d0, .slice (some ⟨g, 0, none⟩) l1.length d1, .bool false]) ?_ 3 _ rfl; refine blk_put (cs := #[.int .i64 t, .slice B0 l0.length d0, .slice none 0 0, .bool false]) ?_ 2 _ rfl; refine blk_put (cs := #[.int .i64 t, .slice none 0 0, .slice none 0 0, .bool false]) ?_ 1 _ rfl; refine blk_put (cs := #[.int .i64 0, .slice none 0 0, .slice none 0 0, .bool false]) ?_ 0 _ rfl; exact T2.out) Tryd.underlying24 rfl (by kernel_rfl)) rfl ?_
  have hps := PS.out
  refine ⟨_, _, rfl, ?_, ?_, (((T6.out.setCell (by simp; omega) _).setCell (by simp; omega) _).setCell (by simp; omega) _).setCell (by simp; omega) _⟩
  · exact Kd.R_mono (Kd.R_far (p := ⟨w.heap.size + 1 + 1, 3, none⟩) (Kd.R_far (p := ⟨w.heap.size + 1 + 1, 2, none⟩) (Kd.R_far (p := ⟨w.heap.size + 1 + 1, 1, none⟩) (Kd.R_far (p := ⟨w.heap.size + 1 + 1, 0, none⟩) T4.out (fun k hk => by have := hk.1; simp; omega) _) (fun k hk => by have := hk.1; simp; omega) _) (fun k hk => by have := hk.1; simp; omega) _) (fun k hk => by have := hk.1; simp; omega) _) (fun k hk e => by have := T5.out.1 k e.symm; have := hk.2; omega)
  · exact Kd.R_mono (Kd.R_far (p := ⟨w.heap.size + 1 + 1, 3, none⟩) (Kd.R_far (p := ⟨w.heap.size + 1 + 1, 2, none⟩) (Kd.R_far (p := ⟨w.heap.size + 1 + 1, 1, none⟩) (Kd.R_far (p := ⟨w.heap.size + 1 + 1, 0, none⟩) T5.out (fun k hk => by simp; omega) _) (fun k hk => by simp; omega) _) (fun k hk => by simp; omega) _) (fun k hk => by simp; omega) _) (fun k hk e => by have := (T4.out.1 k e.symm).2; omega)
end Go.Proofs.YtponmfnegdlppaaDoor.P

end
section
/- ledger.known, by hand (printed by HKnown.gen.py). -/
namespace Go.Proofs.YtponmfnegdlppaaDoor.P
open Go.RowKit Go.Proofs.YtponmfnegdlppaaDoorW.PrintWords Go.Proofs.YtponmfnegdlppaaDoorW.PrintLast Go.Proofs.YtponmfnegdlppaaDoorW.PrintMore
set_option linter.unusedVariables false
set_option linter.unusedSimpArgs false

def roomT (n0 n1 : Nat) (k : Int) : Int := if k = 0 then (n0 : Int) else if k = 1 then (n1 : Int) else 0
def okT (n0 n1 : Nat) (x : S29) : Bool := !(decide (x.f1 < 0)) && !(decide (roomT n0 n1 x.f0 ≤ x.f1))
def scanT (n0 n1 : Nat) : List S29 → Int
  | [] => 0
  | x :: l => if okT n0 n1 x = true then scanT n0 n1 l else 191
def knownP (t : Int) (l0 l1 : List S38) (fl : Bool) (ts : List S29) : Int := if checkP t l0 l1 fl = 0 then scanT l0.length l1.length ts else checkP t l0 l1 fl
theorem rd29 (l : List S29) (i : Nat) (h : i < l.length) : rd_T29 l (i : Int) = l[i] := by
  unfold rd_T29
  rw [Int.toNat_natCast, List.getD_eq_getElem?_getD, List.getElem?_eq_getElem h]
  rfl
theorem drop29 (l : List S29) (i : Nat) (h : i < l.length) : l.drop i = rd_T29 l (i : Int) :: l.drop (i + 1) := by
  rw [rd29 l i h]
  exact List.drop_eq_getElem_cons h

set_option maxHeartbeats 4000000 in
set_option maxRecDepth 100000 in
theorem known_any (t : Int) (fl : Bool) (A0 : Option Addr) (c0 : Nat) (l0 : List S38) (A1 : Option Addr) (c1 : Nat) (l1 : List S38) (A : Option Addr) (c : Nat) (ts : List S29) (w : World) (h0 : Kd.C k38 w A0 l0.length l0) (h1 : Kd.C k38 w A1 l1.length l1) (hts : Kd.C k29 w A ts.length ts) (hl : ts.length ≤ 100) (hl0 : l0.length ≤ 6000000000000) (hl1 : l1.length ≤ 6000000000000) (hT : Tab w) :
    Calls Tryd.prog 54 #[.agg #[.int .i64 t, .slice A0 l0.length c0, .slice A1 l1.length c1, .bool fl], .slice A ts.length c] w fun e w' => e = .returned (.int .i64 (knownP t l0 l1 fl ts)) ∧ Below w.heap.size w w' := by
  have hba := below_alloc (Below.refl w.heap.size w) (.cells #[.int .i64 t, .slice A0 l0.length c0, .slice A1 l1.length c1, .bool fl] 24)
  have hbk : bookAt (w.alloc (.cells #[.int .i64 t, .slice A0 l0.length c0, .slice A1 l1.length c1, .bool fl] 24)) w.heap.size t (.slice A0 l0.length c0) (.slice A1 l1.length c1) fl := heap_alloc_new w _
  have hcall := check_any t fl A0 c0 l0 A1 c1 l1 (w.alloc (.cells #[.int .i64 t, .slice A0 l0.length c0, .slice A1 l1.length c1, .bool fl] 24)) (Kd.C_below h0 hba) (Kd.C_below h1 hba) (hT.below hba)
  have HCA := Aside0.mk hcall
  have HBA := Aside0.mk hba
  have HBK := Aside0.mk hbk
  have HTS := Aside0.mk hts
  obtain ⟨r, hr⟩ : ∃ r, knownP t l0 l1 fl ts = r := ⟨_, rfl⟩
  rw [hr]
  have HR := Aside0.mk hr
  clear hcall hba hbk hts h0 h1 hT hr
  generalize hn0 : l0.length = n0 at *
  generalize hn1 : l1.length = n1 at *
  generalize hnt : ts.length = nt at *
  have HN0 := Aside0.mk hn0
  have HN1 := Aside0.mk hn1
  have HNT := Aside0.mk hnt
  clear hn0 hn1 hnt
  have hu22 := Tryd.underlying22
  have hu38 := Tryd.underlying38
  have hu24 := Tryd.underlying24
  have hu26 := Tryd.underlying26
  have hu29 := Tryd.underlying29
  have hz0 := HBK.out.c0
  have hz1 := HBK.out.c1
  have hz2 := HBK.out.c2
  have hz3 := HBK.out.c3
  by_cases hc : checkP t l0 l1 fl = 0
  · have hr := HR.out
    unfold knownP at hr
    rw [if_pos hc, HN0.out, HN1.out] at hr
    have hcall := HCA.out
    rw [hc] at hcall
    have HCA2 := Aside0.mk hcall
    have HR2 := Aside0.mk hr
    clear hr hcall hc HCA HR
    go_enter Tryd.func54, Tryd.ntmps54
    go_wp2_with (go_at_call 15; refine HCA2.out.mono ?_; rintro e W2 ⟨rfl, hB2⟩; have HB2 := Aside0.mk (HBK.out.below hB2 HBK.out.lt); have HA2 := Aside0.mk (below_step HBA.out hB2); clear hB2 HBK HBA hz0 hz1 hz2 hz3)
    clear HCA2
    go_loopw [16] (fun vi wr => ∃ i : Nat, i ≤ nt ∧ vi = .int .i64 i ∧ Aside0 (scanT n0 n1 (ts.drop i) = r) ∧ Aside0 (bookAt wr w.heap.size t (.slice A0 n0 c0) (.slice A1 n1 c1) fl) ∧ Aside0 (Below w.heap.size w wr)) (fun vi _ => nt - (intOf vi).toNat)
    case atStart => exact ⟨0, by omega, rfl, by rw [List.drop_zero]; exact HR2, HB2, HA2⟩
    case round =>
      clear HR2 HB2 HA2
      obtain ⟨i, hi, rfl, HR, HBK, HBA⟩ := hrel
      by_cases hlt : i < nt
      · have hd1 : decide ((i : Int) < (nt : Int)) = true := by simp; omega
        have hd2 : decide (i < nt) = true := by simp; omega
        have hr := HR.out
        have hil : i < ts.length := by have := HNT.out; omega
        rw [drop29 ts i hil] at hr
        obtain ⟨ad, e, hx0, hx1⟩ := at_T29 HTS.out (i : Int) (by omega) (by have := HNT.out; omega)
        subst e
        generalize rd_T29 ts (i : Int) = s at *
        rw [Int.toNat_natCast] at hx0 hx1
        replace hx0 := (HBA.out.cell (World.block_lt_of_cell? w _ hx0)).trans hx0
        replace hx1 := (HBA.out.cell (World.block_lt_of_cell? w _ hx1)).trans hx1
        have HS := Aside0.mk hr
        obtain ⟨k, b⟩ := s
        dsimp only at *
        have hbk := HBK.out
        have hba := HBA.out
        have hya := below_alloc (Below.refl wr.heap.size wr) (.cells #[.int .i64 k, .int .i64 b] 29)
        have HB2 := Aside0.mk (hbk.below hya hbk.lt)
        have HA2 := Aside0.mk (below_step hba hya)
        have hq1 := HB2.out.c1
        have hq2 := HB2.out.c2
        clear hr hya hbk hba HR
        by_cases g0 : k = 0
        · have e0 : (k == 0) = true := by simp; omega
          have hrm : roomT n0 n1 k = (n0 : Int) := by unfold roomT; rw [if_pos g0]
          by_cases b1 : b < 0
          · have d1 : decide (b < 0) = true := decide_eq_true b1
            have hr := HS.out
            have hg : okT n0 n1 ⟨k, b⟩ = false := by unfold okT; rw [hrm]; simp <;> omega
            rw [scanT, if_neg (by rw [hg]; decide)] at hr
            subst hr
            clear HS hg hrm g0
            go_wp2_with fail
            go_ret
            exact ⟨rfl, HA2.out⟩
          have d1 : decide (b < 0) = false := decide_eq_false b1
          by_cases b2 : (n0 : Int) ≤ b
          · have d2 : decide ((n0 : Int) ≤ b) = true := decide_eq_true b2
            have hr := HS.out
            have hg : okT n0 n1 ⟨k, b⟩ = false := by unfold okT; rw [hrm]; simp <;> omega
            rw [scanT, if_neg (by rw [hg]; decide)] at hr
            subst hr
            clear HS hg hrm g0
            go_wp2_with fail
            go_ret
            exact ⟨rfl, HA2.out⟩
          have d2 : decide ((n0 : Int) ≤ b) = false := decide_eq_false b2
          have hr := HS.out
          have hg : okT n0 n1 ⟨k, b⟩ = true := by unfold okT; rw [hrm]; simp <;> omega
          rw [scanT, if_pos hg] at hr
          have HR2 := Aside0.mk hr
          clear hr hg HS hrm b1 b2 g0
          go_wp2_with fail
          go_roundw
          case rel => exact ⟨i + 1, by omega, by go_num, HR2, HB2, HA2⟩
          case measure => simp [intOf]; omega
        · have e0 : (k == 0) = false := by simp; omega
          by_cases g1 : k = 1
          · have e1 : (k == 1) = true := by simp; omega
            have hrm : roomT n0 n1 k = (n1 : Int) := by unfold roomT; rw [if_neg g0, if_pos g1]
            by_cases b1 : b < 0
            · have d1 : decide (b < 0) = true := decide_eq_true b1
              have hr := HS.out
              have hg : okT n0 n1 ⟨k, b⟩ = false := by unfold okT; rw [hrm]; simp <;> omega
              rw [scanT, if_neg (by rw [hg]; decide)] at hr
              subst hr
              clear HS hg hrm g0 g1
              go_wp2_with fail
              go_ret
              exact ⟨rfl, HA2.out⟩
            have d1 : decide (b < 0) = false := decide_eq_false b1
            by_cases b2 : (n1 : Int) ≤ b
            · have d2 : decide ((n1 : Int) ≤ b) = true := decide_eq_true b2
              have hr := HS.out
              have hg : okT n0 n1 ⟨k, b⟩ = false := by unfold okT; rw [hrm]; simp <;> omega
              rw [scanT, if_neg (by rw [hg]; decide)] at hr
              subst hr
              clear HS hg hrm g0 g1
              go_wp2_with fail
              go_ret
              exact ⟨rfl, HA2.out⟩
            have d2 : decide ((n1 : Int) ≤ b) = false := decide_eq_false b2
            have hr := HS.out
            have hg : okT n0 n1 ⟨k, b⟩ = true := by unfold okT; rw [hrm]; simp <;> omega
            rw [scanT, if_pos hg] at hr
            have HR2 := Aside0.mk hr
            clear hr hg HS hrm b1 b2 g0 g1
            go_wp2_with fail
            go_roundw
            case rel => exact ⟨i + 1, by omega, by go_num, HR2, HB2, HA2⟩
            case measure => simp [intOf]; omega
          · have e1 : (k == 1) = false := by simp; omega
            have hrm : roomT n0 n1 k = 0 := by unfold roomT; rw [if_neg g0, if_neg g1]
            by_cases b1 : b < 0
            · have d1 : decide (b < 0) = true := decide_eq_true b1
              have hr := HS.out
              have hg : okT n0 n1 ⟨k, b⟩ = false := by unfold okT; rw [hrm]; simp <;> omega
              rw [scanT, if_neg (by rw [hg]; decide)] at hr
              subst hr
              clear HS hg hrm g0 g1
              go_wp2_with fail
              go_ret
              exact ⟨rfl, HA2.out⟩
            have d1 : decide (b < 0) = false := decide_eq_false b1
            by_cases b2 : 0 ≤ b
            · have d2 : decide (0 ≤ b) = true := decide_eq_true b2
              have hr := HS.out
              have hg : okT n0 n1 ⟨k, b⟩ = false := by unfold okT; rw [hrm]; simp <;> omega
              rw [scanT, if_neg (by rw [hg]; decide)] at hr
              subst hr
              clear HS hg hrm g0 g1
              go_wp2_with fail
              go_ret
              exact ⟨rfl, HA2.out⟩
            have d2 : decide (0 ≤ b) = false := decide_eq_false b2
            have hr := HS.out
            have hg : okT n0 n1 ⟨k, b⟩ = true := by unfold okT; rw [hrm]; simp <;> omega
            rw [scanT, if_pos hg] at hr
            have HR2 := Aside0.mk hr
            clear hr hg HS hrm b1 b2 g0 g1
            go_wp2_with fail
            go_roundw
            case rel => exact ⟨i + 1, by omega, by go_num, HR2, HB2, HA2⟩
            case measure => simp [intOf]; omega
      · obtain rfl : i = nt := by omega
        have hd1 : decide ((i : Int) < (i : Int)) = false := by simp
        have hr := HR.out
        rw [List.drop_eq_nil_of_le (by have := HNT.out; omega)] at hr
        obtain rfl : (0 : Int) = r := hr
        clear HR
        go_wp2_with fail
        go_ret
        exact ⟨rfl, HBA.out⟩
  · have hr := HR.out
    unfold knownP at hr
    rw [if_neg hc] at hr
    have hcall := HCA.out
    rw [hr] at hcall
    have hne : (r != 0) = true := by rw [← hr]; exact bne_iff_ne.2 hc
    have HCA2 := Aside0.mk hcall
    clear hr hcall hc HCA HR
    go_enter Tryd.func54, Tryd.ntmps54
    go_wp2_with (go_at_call 15; refine HCA2.out.mono ?_; rintro e W2 ⟨rfl, hB2⟩; have HA2 := Aside0.mk (below_step HBA.out hB2); clear hB2 HBK HBA hz0 hz1 hz2 hz3)
    go_ret
    exact ⟨rfl, HA2.out⟩
end Go.Proofs.YtponmfnegdlppaaDoor.P

end
