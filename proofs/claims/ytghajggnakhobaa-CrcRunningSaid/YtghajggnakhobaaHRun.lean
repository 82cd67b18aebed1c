/- The acts on sums that grow: contracts by hand (nil receivers; the document's own sum, whose bytes are a row of the call's own). -/
import Derived.Test.YtghajggnakhobaaHSums
import Derived.Test.YtghajggnakhobaaPf29
import Derived.Test.YtghajggnakhobaaPf30
import Derived.Test.YtghajggnakhobaaPf31
import Derived.Test.YtghajggnakhobaaPf32
import Derived.Test.YtghajggnakhobaaPf36
import Derived.Test.YtghajggnakhobaaPf38
import Derived.Outline
namespace Go.Proofs.Ytghajggnakhobaa.P
open Go.RowKit Go.Proofs.YtghajggnakhobaaW.PrintWords Go.Proofs.YtghajggnakhobaaW.PrintLast Go.Proofs.YtghajggnakhobaaW.PrintMore Go.Proofs.Ytghajggnakhobaa.Hand
set_option linter.unusedVariables false
set_option linter.unusedSimpArgs false

/-! ### nil -/
theorem WriteNil (A : Option Addr) (n c : Nat) (w : World) : Calls Try.prog 30 #[.pointer none, .slice A n c] w fun e w' => e = .returned (.tuple #[]) ∧ Below w.heap.size w w' := by
  go_enter Try.func30, Try.ntmps30
  go_wp2_with fail
  go_end0
  exact ⟨rfl, by first | exact Below.refl _ _ | exact pw_below_drewN (Below.refl _ _) _⟩
theorem ResetNil (w : World) : Calls Try.prog 31 #[.pointer none] w fun e w' => e = .returned (.tuple #[]) ∧ Below w.heap.size w w' := by
  go_enter Try.func31, Try.ntmps31
  go_wp2_with fail
  go_end0
  exact ⟨rfl, by first | exact Below.refl _ _ | exact pw_below_drewN (Below.refl _ _) _⟩
theorem SumNil (w : World) : Calls Try.prog 36 #[.pointer none] w fun e w' => e = .returned (.int .u32 0) ∧ Below w.heap.size w w' := by
  go_enter Try.func36, Try.ntmps36
  go_wp2_with fail
  go_ret
  exact ⟨rfl, by first | exact Below.refl _ _ | exact pw_below_drewN (Below.refl _ _) _⟩
theorem LenNil (w : World) : Calls Try.prog 38 #[.pointer none] w fun e w' => e = .returned (.int .i64 0) ∧ Below w.heap.size w w' := by
  go_enter Try.func38, Try.ntmps38
  go_wp2_with fail
  go_ret
  exact ⟨rfl, by first | exact Below.refl _ _ | exact pw_below_drewN (Below.refl _ _) _⟩

/-! ### the document's own -/
/-- its box at b; its bytes are a row of the call's own, in blocks of P -/
def RB (w0 W : World) (b : Nat) (P : Nat → Prop) (l : List Int) : Prop := ∃ u, W.heap[b]? = some (.cells #[u] 66 (0, 0)) ∧ w0.heap.size ≤ b ∧ Kd.R (Kd.int .u8) 5 W w0.heap.size P u l
theorem RB.lt {w0 W : World} {b : Nat} {P : Nat → Prop} {l : List Int} (h : RB w0 W b P l) : b < W.heap.size := by
  obtain ⟨u, hb, _⟩ := h
  exact blk_lt hb
theorem RB.kept {w0 W W2 : World} {b : Nat} {P : Nat → Prop} {l : List Int} {S : Nat → Prop} (h : RB w0 W b P l) (hk : Kept W W2 S) (hb : ¬ S b) (hP : ∀ k, P k → ¬ S k) : RB w0 W2 b P l := by
  obtain ⟨u, h1, h2, h3⟩ := h
  exact ⟨u, blk_kept h1 hk hb, h2, Kd.R_kept h3 hk hP⟩
theorem RB.below {w0 W W2 : World} {b : Nat} {P : Nat → Prop} {l : List Int} (h : RB w0 W b P l) (hb : Below W.heap.size W W2) : RB w0 W2 b P l := by
  obtain ⟨u, h1, h2, h3⟩ := h
  exact ⟨u, (hb.block _ (blk_lt h1)).trans h1, h2, Kd.R_below h3 hb⟩
theorem RB.bound {w0 W : World} {b : Nat} {P : Nat → Prop} {l : List Int} (h : RB w0 W b P l) : RB w0 W b (fun k => P k ∧ k < W.heap.size) l := by
  obtain ⟨u, h1, h2, h3⟩ := h
  exact ⟨u, h1, h2, Kd.R_mono (Kd.R_bound h3) (fun k hk => ⟨hk.1, hk.2.2.1⟩)⟩
theorem RB.mono {w0 W : World} {b : Nat} {P P' : Nat → Prop} {l : List Int} (h : RB w0 W b P l) (hP : ∀ k, P k → P' k) : RB w0 W b P' l := by
  obtain ⟨u, h1, h2, h3⟩ := h
  exact ⟨u, h1, h2, Kd.R_mono h3 hP⟩

theorem RefLen (w0 w : World) (b : Nat) (P : Nat → Prop) (l : List Int) (hl : l.length ≤ 9223372036854775806) (h : RB w0 w b P l) : Calls Try.prog 39 #[.pointer (some ⟨b, 0, none⟩)] w fun e w' => e = .returned (.int .i64 l.length) ∧ Below w.heap.size w w' := by
  obtain ⟨u, h1, h2, h3⟩ := h
  obtain ⟨A, c, rfl, hc, hC⟩ := Kd.R_reads h3
  have hx : w.cell? ⟨b, 0, none⟩ = some (.slice A l.length c) := (blk_cell h1 0).trans rfl
  clear h1 h2 h3 hC hc
  go_enter Try.func39, Try.ntmps39
  go_wp2_with fail
  go_ret
  exact ⟨by first | rfl | (simp; done) | (simp; omega), by first | exact Below.refl _ _ | exact pw_below_drewN (Below.refl _ _) _⟩
theorem RefSum (w0 w : World) (b : Nat) (P : Nat → Prop) (l : List Int) (hl : l.length ≤ 9223372036854775806) (h : RB w0 w b P l) : Calls Try.prog 37 #[.pointer (some ⟨b, 0, none⟩)] w fun e w' => e = .returned (.int .u32 (extI 0 l)) ∧ Below w.heap.size w w' := by
  obtain ⟨u, h1, h2, h3⟩ := h
  obtain ⟨A, c, rfl, hc, hC⟩ := Kd.R_reads h3
  have hx : w.cell? ⟨b, 0, none⟩ = some (.slice A l.length c) := (blk_cell h1 0).trans rfl
  have HC := Aside0.mk hC
  have Hc := Aside0.mk hc
  have hS := Aside0.mk (RefSum_eq l hl (10 * l.length + 1) (by omega))
  clear h1 h2 h3 hC hc hl
  go_enter Try.func37, Try.ntmps37
  go_wp2_with fail
  refine (winnowref1_Sum.calls _ A c l _ _ (by first | exact HC.out | exact Kd.C_drewN HC.out _) Hc.out hS.out).mono ?_
  rintro e w2 ⟨rfl, hD⟩
  have HB2 := Aside0.mk hD.below
  clear hD
  go_wp2_with fail
  go_ret
  exact ⟨rfl, by first | exact HB2.out | exact below_step (pw_below_drewN (Below.refl _ _) _) HB2.out⟩
theorem RefReset (w0 w : World) (b : Nat) (P : Nat → Prop) (l : List Int) (hB : Below w0.heap.size w0 w) (h : RB w0 w b P l) : Calls Try.prog 35 #[.pointer (some ⟨b, 0, none⟩)] w fun e w' => e = .returned (.tuple #[]) ∧
    RB w0 w' b P [] ∧ Kept w w' (fun k => k = b) ∧ Below w0.heap.size w0 w' := by
  obtain ⟨u, h1, h2, h3⟩ := h
  obtain ⟨A, c, rfl, hc, hC⟩ := Kd.R_reads h3
  have hx : w.cell? ⟨b, 0, none⟩ = some (.slice A l.length c) := (blk_cell h1 0).trans rfl
  have hf := blk_frozen h1 0
  have G := Aside0.mk (show RB w0 (w.setCell ⟨b, 0, none⟩ (.slice none 0 0)) b P [] ∧ Kept w (w.setCell ⟨b, 0, none⟩ (.slice none 0 0)) (fun k => k = b) ∧ Below w0.heap.size w0 (w.setCell ⟨b, 0, none⟩ (.slice none 0 0)) from
    ⟨⟨.slice none 0 0, by simpa using blk_set h1 0 (.slice none 0 0), h2, Kd.R_nil _ _ _ _ _⟩, (Kept.refl w (fun k => k = b)).setCell (p := ⟨b, 0, none⟩) (.inl rfl) _, hB.setCell h2 _⟩)
  clear h1 h2 h3 hC hc hB
  go_enter Try.func35, Try.ntmps35
  go_wp2_with fail
  go_end0
  exact ⟨rfl, G.out⟩
theorem RefNew (w0 w : World) (P : Nat → Prop) (hB : Below w0.heap.size w0 w) : Calls Try.prog 33 #[] w fun e w' => ∃ b, e = .returned (.pointer (some ⟨b, 0, none⟩)) ∧ w.heap.size ≤ b ∧
    RB w0 w' b P [] ∧ Below w.heap.size w w' := by
  have hs := hB.size
  have G := Aside0.mk (show RB w0 (w.alloc (.cells #[.slice none 0 0] 66)) w.heap.size P [] ∧ Below w.heap.size w (w.alloc (.cells #[.slice none 0 0] 66)) from
    ⟨⟨.slice none 0 0, heap_alloc_new w _, hs, Kd.R_nil _ _ _ _ _⟩, below_alloc (Below.refl _ _) _⟩)
  clear hB hs
  go_enter Try.func33, Try.ntmps33
  go_wp2_with fail
  go_ret
  exact ⟨_, rfl, Nat.le_refl _, G.out⟩
theorem wRB {w0 w w1 : World} {b : Nat} {P : Nat → Prop} {l : List Int} {u v : Value} (hb1 : w1.heap[b]? = some (.cells #[u] 66 (0, 0))) (h2 : w0.heap.size ≤ b) (hPb : ¬ P b) (ho : Kd.R (Kd.int .u8) 5 w1 w0.heap.size P v l) (hb : Below w0.heap.size w0 w1) (hk : Kept w w1 (fun k => k = b ∨ P k)) :
    RB w0 (w1.setCell ⟨b, 0, none⟩ v) b P l ∧ Kept w (w1.setCell ⟨b, 0, none⟩ v) (fun k => k = b ∨ P k) ∧ Below w0.heap.size w0 (w1.setCell ⟨b, 0, none⟩ v) :=
  ⟨⟨v, by simpa using blk_set hb1 0 v, h2, Kd.R_kept ho ((Kept.refl w1 (fun k => k = b)).setCell (p := ⟨b, 0, none⟩) (.inl rfl) v) (fun k hp e => hPb (by subst e; exact hp))⟩, hk.setCell (p := ⟨b, 0, none⟩) (.inl (.inl rfl)) v, hb.setCell h2 v⟩
set_option maxHeartbeats 4000000 in
theorem RefWrite (w0 w : World) (b : Nat) (P : Nat → Prop) (l m : List Int) (A1 : Option Addr) (c1 : Nat) (hB : Below w0.heap.size w0 w) (h : RB w0 w b P l) (hPb : ¬ P b) (hfresh : ∀ k, w.heap.size ≤ k → P k) (hl : l.length + m.length ≤ 140737488355328)
    (hC1 : Kd.C (Kd.int .u8) w A1 m.length m) (hc1 : m.length ≤ c1) : Calls Try.prog 34 #[.pointer (some ⟨b, 0, none⟩), .slice A1 m.length c1] w fun e w' => e = .returned (.tuple #[]) ∧
    RB w0 w' b P (l ++ m) ∧ Kept w w' (fun k => k = b ∨ P k) ∧ Below w0.heap.size w0 w' := by
  obtain ⟨u, h1, h2, h3⟩ := h
  have HP := Aside0.mk h3.1
  obtain ⟨A, c, rfl, hc, hC⟩ := Kd.R_reads h3
  have hx : w.cell? ⟨b, 0, none⟩ = some (.slice A l.length c) := (blk_cell h1 0).trans rfl
  have hf := blk_frozen h1 0
  have H1 := Aside0.mk h1
  have H2 := Aside0.mk h2
  have H3 := Aside0.mk h3
  have HC1 := Aside0.mk hC1
  have HB := Aside0.mk hB
  have HPb := Aside0.mk hPb
  have HF := Aside0.mk hfresh
  have HL := Aside0.mk hl
  clear h1 h2 h3 hC hc hB hC1 hPb hfresh hl
  go_enter Try.func34, Try.ntmps34
  go_wp2_with (first | ((with_reducible refine gate_builtin (b := .append) (xs := #[.tmp 10, .tmp 11]) rfl ?_); at_builtin; refine Kd.R_append_rows (Kd.int .u8) (w0 := w0) w0.heap.size rfl (.tmp 10) (.tmp 11) 25 5 (.int .u8 0) 1 rfl Try.underlying25 info5 rfl (by decide) (by omega) (.slice A l.length c) l m A1 m.length c1 P (fun _ => False) rfl rfl H3.out HC1.out (fun _ _ h => h) (fun _ h => h.elim) HF.out HB.out HB.out.size (by have := HL.out; omega) ?_; intro v1 w1 ho hb hg hat; obtain ⟨A', c', rfl⟩ := Kd.R_slice ho; have hb1 := blk_grown H1.out hg (fun e => HPb.out (HP.out _ e.symm)); have hx1 : w1.cell? ⟨b, 0, none⟩ = some (.slice A l.length c) := (blk_cell hb1 0).trans rfl; have hf1 := blk_frozen hb1 0; have G := Aside0.mk (wRB hb1 H2.out HPb.out ho hb (Kept.of_grown hg (Kept.refl w (fun k => k = b ∨ P k)) (fun k e => .inl (.inr (HP.out k e))))); clear ho hb hg hat hb1))
  go_end0
  rw [← List.length_append]
  exact ⟨rfl, G.out⟩
/-! ### both sums at once: every block has a colour -/
theorem CSum (w0 w : World) (g : Nat) (x y : Int) (h : IsS46 w0 w g x y) : Calls Try.prog 36 #[.pointer (some ⟨g, 0, none⟩)] w fun e w' => e = .returned (.int .u32 x) ∧ Below w.heap.size w w' := by
  have hx := cellS46_0 h.1
  clear h
  go_enter Try.func36, Try.ntmps36
  go_wp2_with fail
  go_ret
  exact ⟨rfl, by first | exact Below.refl _ _ | exact pw_below_drewN (Below.refl _ _) _⟩
theorem CLen (w0 w : World) (g : Nat) (x y : Int) (h : IsS46 w0 w g x y) : Calls Try.prog 38 #[.pointer (some ⟨g, 0, none⟩)] w fun e w' => e = .returned (.int .i64 y) ∧ Below w.heap.size w w' := by
  have hx := cellS46_1 h.1
  clear h
  go_enter Try.func38, Try.ntmps38
  go_wp2_with fail
  go_ret
  exact ⟨rfl, by first | exact Below.refl _ _ | exact pw_below_drewN (Below.refl _ _) _⟩
def upd {α : Type} (f : Nat → α) (j : Nat) (x : α) : Nat → α := fun i => if i = j then x else f i
theorem upd_self {α : Type} (f : Nat → α) (j : Nat) (x : α) : upd f j x j = x := if_pos rfl
theorem upd_ne {α : Type} (f : Nat → α) (j i : Nat) (x : α) (h : i ≠ j) : upd f j x i = f i := if_neg h
def pt (g : Nat) : Value := .pointer (some ⟨g, 0, none⟩)
theorem RB.step {w0 W W2 : World} {b : Nat} {P P2 : Nat → Prop} {l : List Int} (h : RB w0 W b P l) (hb : W2.heap[b]? = W.heap[b]?) (hP : ∀ k, P k → k < W.heap.size → W2.heap[k]? = W.heap[k]? ∧ P2 k) : RB w0 W2 b P2 l := by
  obtain ⟨u, h1, h2, h3⟩ := h
  refine ⟨u, hb.trans h1, h2, Kd.R_mono (ok := fun k => P k ∧ k < W.heap.size) ?_ (fun k hk => (hP k hk.1 hk.2).2)⟩
  exact Kd.R_step (Kd.R_mono (Kd.R_bound h3) (fun k hk => ⟨hk.1, hk.2.2.1⟩)) (fun k ho hlt => (hP k ho.1 ho.2).1)
/-- both sums at W: gr and gq hold the pointers -/
def INV (w0 W : World) (gr gq : Nat) (col : Nat → Nat) (a b : Nat → Nat) (la lb : Nat → List Int) : Prop :=
  (W.heap[gr]? = some (.cells #[pt (a 0), pt (a 1)] 47 (0, 0)) ∧ w0.heap.size ≤ gr ∧ col gr = 1) ∧
  (W.heap[gq]? = some (.cells #[pt (b 0), pt (b 1)] 50 (0, 0)) ∧ w0.heap.size ≤ gq ∧ col gq = 2) ∧
  (∀ j, j < 2 → IsS46 w0 W (a j) (extI 0 (la j)) ((la j).length : Int) ∧ col (a j) = 3 + j) ∧
  (∀ j, j < 2 → RB w0 W (b j) (fun k => col k = 7 + j) (lb j) ∧ col (b j) = 5 + j) ∧
  Below w0.heap.size w0 W
theorem S46.step {w0 W W2 : World} {g : Nat} {x y : Int} (h : IsS46 w0 W g x y) (hb : W2.heap[g]? = W.heap[g]?) : IsS46 w0 W2 g x y := ⟨hb.trans h.1, h.2⟩
theorem INV.kept {w0 W W2 : World} {gr gq : Nat} {col : Nat → Nat} {a b : Nat → Nat} {la lb : Nat → List Int} {S : Nat → Prop} (h : INV w0 W gr gq col a b la lb) (hk : Kept W W2 S) (hS : ∀ k, k < W.heap.size → S k → col k = 0 ∨ 9 ≤ col k) (hB : Below w0.heap.size w0 W2) : INV w0 W2 gr gq col a b la lb := by
  obtain ⟨⟨h1, h2, h3⟩, ⟨h4, h5, h6⟩, h7, h8, h9⟩ := h
  have st : ∀ k, k < W.heap.size → 0 < col k → col k < 9 → W2.heap[k]? = W.heap[k]? := fun k hlt h0 h9 => hk.2 k hlt (fun hs => by have := hS k hlt hs; omega)
  refine ⟨⟨(st gr (blk_lt h1) (by omega) (by omega)).trans h1, h2, h3⟩, ⟨(st gq (blk_lt h4) (by omega) (by omega)).trans h4, h5, h6⟩, fun j hj => ?_, fun j hj => ?_, hB⟩
  · exact ⟨S46.step (h7 j hj).1 (st _ (h7 j hj).1.lt (by have := (h7 j hj).2; omega) (by have := (h7 j hj).2; omega)), (h7 j hj).2⟩
  · exact ⟨RB.step (h8 j hj).1 (st _ (h8 j hj).1.lt (by have := (h8 j hj).2; omega) (by have := (h8 j hj).2; omega)) (fun k hp hlt => ⟨st k hlt (by omega) (by omega), hp⟩), (h8 j hj).2⟩
theorem INV.below {w0 W W2 : World} {gr gq : Nat} {col : Nat → Nat} {a b : Nat → Nat} {la lb : Nat → List Int} (h : INV w0 W gr gq col a b la lb) (hb : Below W.heap.size W W2) : INV w0 W2 gr gq col a b la lb :=
  h.kept (S := fun _ => False) (Kept.of_below hb _) (fun _ _ h => h.elim) (below_step h.2.2.2.2 hb)
theorem INV.recol {w0 W : World} {gr gq : Nat} {col col2 : Nat → Nat} {a b : Nat → Nat} {la lb : Nat → List Int} (h : INV w0 W gr gq col a b la lb) (hc : ∀ k, k < W.heap.size → col2 k = col k) : INV w0 W gr gq col2 a b la lb := by
  obtain ⟨⟨h1, h2, h3⟩, ⟨h4, h5, h6⟩, h7, h8, h9⟩ := h
  refine ⟨⟨h1, h2, (hc _ (blk_lt h1)).trans h3⟩, ⟨h4, h5, (hc _ (blk_lt h4)).trans h6⟩, fun j hj => ?_, fun j hj => ?_, h9⟩
  · exact ⟨(h7 j hj).1, (hc _ (h7 j hj).1.lt).trans (h7 j hj).2⟩
  · exact ⟨RB.step (h8 j hj).1 rfl (fun k hp hlt => ⟨rfl, (hc k hlt).trans hp⟩), (hc _ (h8 j hj).1.lt).trans (h8 j hj).2⟩
theorem INV.setA {w0 W W2 : World} {gr gq : Nat} {col : Nat → Nat} {a b : Nat → Nat} {la lb : Nat → List Int} (h : INV w0 W gr gq col a b la lb) (j : Nat) (hj : j < 2) (m : List Int) (hI : IsS46 w0 W2 (a j) (extI 0 m) (m.length : Int)) (hk : KeepBut W W2 (a j) none) (hB : Below w0.heap.size w0 W2) :
    INV w0 W2 gr gq col a b (upd la j m) lb := by
  obtain ⟨⟨h1, h2, h3⟩, ⟨h4, h5, h6⟩, h7, h8, h9⟩ := h
  have ca := (h7 j hj).2
  have st : ∀ k, k < W.heap.size → col k ≠ 3 + j → W2.heap[k]? = W.heap[k]? := fun k hlt hc => hk.2 k hlt (fun e => by subst e; omega) (by simp)
  refine ⟨⟨(st gr (blk_lt h1) (by omega)).trans h1, h2, h3⟩, ⟨(st gq (blk_lt h4) (by omega)).trans h4, h5, h6⟩, fun i hi => ?_, fun i hi => ?_, hB⟩
  · by_cases e : i = j
    · subst e
      rw [upd_self]
      exact ⟨hI, ca⟩
    · rw [upd_ne _ _ _ _ e]
      exact ⟨S46.step (h7 i hi).1 (st _ (h7 i hi).1.lt (by have := (h7 i hi).2; omega)), (h7 i hi).2⟩
  · exact ⟨RB.step (h8 i hi).1 (st _ (h8 i hi).1.lt (by have := (h8 i hi).2; omega)) (fun k hp hlt => ⟨st k hlt (by omega), hp⟩), (h8 i hi).2⟩
theorem INV.setB {w0 W W2 : World} {gr gq : Nat} {col : Nat → Nat} {a b : Nat → Nat} {la lb : Nat → List Int} (h : INV w0 W gr gq col a b la lb) (j : Nat) (hj : j < 2) (m : List Int) (hR : RB w0 W2 (b j) (fun k => col k = 7 + j) m) (hk : Kept W W2 (fun k => k = b j ∨ col k = 7 + j)) (hB : Below w0.heap.size w0 W2) :
    INV w0 W2 gr gq col a b la (upd lb j m) := by
  obtain ⟨⟨h1, h2, h3⟩, ⟨h4, h5, h6⟩, h7, h8, h9⟩ := h
  have cb := (h8 j hj).2
  have st : ∀ k, k < W.heap.size → col k ≠ 5 + j → col k ≠ 7 + j → W2.heap[k]? = W.heap[k]? := fun k hlt hc hc2 => hk.2 k hlt (fun e => by rcases e with e | e; subst e; omega; omega)
  refine ⟨⟨(st gr (blk_lt h1) (by omega) (by omega)).trans h1, h2, h3⟩, ⟨(st gq (blk_lt h4) (by omega) (by omega)).trans h4, h5, h6⟩, fun i hi => ?_, fun i hi => ?_, hB⟩
  · exact ⟨S46.step (h7 i hi).1 (st _ (h7 i hi).1.lt (by have := (h7 i hi).2; omega) (by have := (h7 i hi).2; omega)), (h7 i hi).2⟩
  · by_cases e : i = j
    · subst e
      rw [upd_self]
      exact ⟨hR, cb⟩
    · rw [upd_ne _ _ _ _ e]
      exact ⟨RB.step (h8 i hi).1 (st _ (h8 i hi).1.lt (by have := (h8 i hi).2; omega) (by have := (h8 i hi).2; omega)) (fun k hp hlt => ⟨st k hlt (by omega) (by omega), hp⟩), (h8 i hi).2⟩
theorem two_set {W : World} {g : Nat} {f : Nat → Nat} {t : TypeId} (h : W.heap[g]? = some (.cells #[pt (f 0), pt (f 1)] t (0, 0))) (j : Nat) (hj : j < 2) (x : Nat) : (W.setCell ⟨g, j, none⟩ (pt x)).heap[g]? = some (.cells #[pt (upd f j x 0), pt (upd f j x 1)] t (0, 0)) := by
  rcases (show j = 0 ∨ j = 1 by omega) with rfl | rfl
  · simpa [upd] using blk_set h 0 (pt x)
  · simpa [upd] using blk_set h 1 (pt x)
theorem INV.newA {w0 W : World} {gr gq : Nat} {col : Nat → Nat} {a b : Nat → Nat} {la lb : Nat → List Int} (h : INV w0 W gr gq col a b la lb) (j : Nat) (hj : j < 2) (g : Nat) (hI : IsS46 w0 W g (extI 0 []) 0) (hg : col g = 3 + j) :
    INV w0 (W.setCell ⟨gr, j, none⟩ (pt g)) gr gq col (upd a j g) b (upd la j []) lb ∧ Kept W (W.setCell ⟨gr, j, none⟩ (pt g)) (fun k => k = gr) := by
  obtain ⟨⟨h1, h2, h3⟩, ⟨h4, h5, h6⟩, h7, h8, h9⟩ := h
  have hk : Kept W (W.setCell ⟨gr, j, none⟩ (pt g)) (fun k => k = gr) := (Kept.refl W (fun k => k = gr)).setCell (p := ⟨gr, j, none⟩) (.inl rfl) _
  have st : ∀ k, k < W.heap.size → col k ≠ 1 → (W.setCell ⟨gr, j, none⟩ (pt g)).heap[k]? = W.heap[k]? := fun k hlt hc => hk.2 k hlt (fun e => by subst e; omega)
  refine ⟨⟨⟨two_set h1 j hj g, h2, h3⟩, ⟨(st gq (blk_lt h4) (by omega)).trans h4, h5, h6⟩, fun i hi => ?_, fun i hi => ?_, h9.setCell h2 _⟩, hk⟩
  · by_cases e : i = j
    · subst e
      rw [upd_self, upd_self]
      exact ⟨S46.step hI (st _ hI.lt (by omega)), hg⟩
    · rw [upd_ne _ _ _ _ e, upd_ne _ _ _ _ e]
      exact ⟨S46.step (h7 i hi).1 (st _ (h7 i hi).1.lt (by have := (h7 i hi).2; omega)), (h7 i hi).2⟩
  · exact ⟨RB.step (h8 i hi).1 (st _ (h8 i hi).1.lt (by have := (h8 i hi).2; omega)) (fun k hp hlt => ⟨st k hlt (by omega), hp⟩), (h8 i hi).2⟩
theorem INV.newB {w0 W : World} {gr gq : Nat} {col : Nat → Nat} {a b : Nat → Nat} {la lb : Nat → List Int} (h : INV w0 W gr gq col a b la lb) (j : Nat) (hj : j < 2) (g : Nat) (hR : RB w0 W g (fun k => col k = 7 + j) []) (hg : col g = 5 + j) :
    INV w0 (W.setCell ⟨gq, j, none⟩ (pt g)) gr gq col a (upd b j g) la (upd lb j []) ∧ Kept W (W.setCell ⟨gq, j, none⟩ (pt g)) (fun k => k = gq) := by
  obtain ⟨⟨h1, h2, h3⟩, ⟨h4, h5, h6⟩, h7, h8, h9⟩ := h
  have hk : Kept W (W.setCell ⟨gq, j, none⟩ (pt g)) (fun k => k = gq) := (Kept.refl W (fun k => k = gq)).setCell (p := ⟨gq, j, none⟩) (.inl rfl) _
  have st : ∀ k, k < W.heap.size → col k ≠ 2 → (W.setCell ⟨gq, j, none⟩ (pt g)).heap[k]? = W.heap[k]? := fun k hlt hc => hk.2 k hlt (fun e => by subst e; omega)
  refine ⟨⟨⟨(st gr (blk_lt h1) (by omega)).trans h1, h2, h3⟩, ⟨two_set h4 j hj g, h5, h6⟩, fun i hi => ?_, fun i hi => ?_, h9.setCell h5 _⟩, hk⟩
  · exact ⟨S46.step (h7 i hi).1 (st _ (h7 i hi).1.lt (by have := (h7 i hi).2; omega)), (h7 i hi).2⟩
  · by_cases e : i = j
    · subst e
      rw [upd_self, upd_self]
      exact ⟨RB.step hR (st _ hR.lt (by omega)) (fun k hp hlt => ⟨st k hlt (by omega), hp⟩), hg⟩
    · rw [upd_ne _ _ _ _ e, upd_ne _ _ _ _ e]
      exact ⟨RB.step (h8 i hi).1 (st _ (h8 i hi).1.lt (by have := (h8 i hi).2; omega)) (fun k hp hlt => ⟨st k hlt (by omega), hp⟩), (h8 i hi).2⟩
theorem two_get {W : World} {g : Nat} {f : Nat → Nat} {t : TypeId} (h : W.heap[g]? = some (.cells #[pt (f 0), pt (f 1)] t (0, 0))) (j : Nat) (hj : j < 2) : W.cell? ⟨g, j, none⟩ = some (.pointer (some ⟨f j, 0, none⟩)) ∧ W.frozen? ⟨g, j, none⟩ = false := by
  refine ⟨?_, blk_frozen h j⟩
  rcases (show j = 0 ∨ j = 1 by omega) with rfl | rfl
  · exact (blk_cell h 0).trans rfl
  · exact (blk_cell h 1).trans rfl
/-- the act's own box and its list with marks -/
def EX (w0 W : World) (col : Nat → Nat) (gx : Nat) (X : Array Value) (v : Value) (L : List Int) : Prop :=
  (W.heap[gx]? = some (.cells X 52 (0, 0)) ∧ col gx = 10) ∧ Kd.R (Kd.int .u8) 5 W w0.heap.size (fun k => col k = 9 ∧ k < W.heap.size) v L
theorem EX.kept {w0 W W2 : World} {col col2 : Nat → Nat} {gx : Nat} {X : Array Value} {v : Value} {L : List Int} {S : Nat → Prop} (h : EX w0 W col gx X v L) (hk : Kept W W2 S) (hS : ∀ k, k < W.heap.size → S k → col k ≠ 9 ∧ col k ≠ 10) (hc : ∀ k, k < W.heap.size → col2 k = col k) : EX w0 W2 col2 gx X v L := by
  obtain ⟨⟨h1, h2⟩, h3⟩ := h
  have hlt := blk_lt h1
  refine ⟨⟨(hk.2 gx hlt (fun hs => (hS gx hlt hs).2 h2)).trans h1, (hc gx hlt).trans h2⟩, Kd.R_mono (Kd.R_step h3 (fun k ho hl => hk.2 k hl (fun hs => (hS k hl hs).1 ho.1))) (fun k ho => ⟨(hc k ho.2).trans ho.1, Nat.lt_of_lt_of_le ho.2 hk.1⟩)⟩
/-! ### what the acts hold, and both sums from act to act -/
theorem extI_append (l m : List Int) : extI (extI 0 l) m = extI 0 (l ++ m) := by
  unfold extI
  rw [n32_nat _ (ext_lt _ _ (n32_lt 0) (n32s_lt l)), List.map_append, Crc.ext_append]
/-- what the acts hold together -/
def acts_n (l : List S52) : Nat := (l.map fun x => x.f2.length + 1).sum
theorem acts_take (l : List S52) (i : Nat) (h : i < l.length) : acts_n (l.take (i + 1)) = acts_n (l.take i) + (l[i].f2.length + 1) := by
  unfold acts_n
  rw [List.take_succ_eq_append_getElem h, List.map_append, List.sum_append]
  simp
theorem acts_take_le (l : List S52) (i : Nat) : acts_n (l.take i) ≤ acts_n l := by
  conv => rhs; rw [← List.take_append_drop i l]
  unfold acts_n
  rw [List.map_append, List.sum_append]
  omega
theorem rd52_nat (l : List S52) (i : Nat) (h : i < l.length) : rd_T52 l (i : Int) = l[i] := by
  unfold rd_T52
  rw [Int.toNat_natCast, List.getD_eq_getElem?_getD, List.getElem?_eq_getElem h]
  rfl
theorem beyond_loop (l : List S52) (hl : l.length ≤ 140737488351232) (hx : ∀ x ∈ l, x.f2.length ≤ 140737488351232) (d : Nat) : ∀ (k i : Nat), i + d = l.length → d < k → acts_n (l.take i) ≤ 2147483647 →
    ∃ r, winnowlaw1_beyond.l0 k l (acts_n (l.take i) : Nat) (i : Int) = some r ∧ (r = false → acts_n l ≤ 2147483647) := by
  induction d with
  | zero =>
    intro k i hi hk hn
    obtain ⟨k, rfl⟩ : ∃ m, k = m + 1 := ⟨k - 1, by omega⟩
    rw [winnowlaw1_beyond.l0, if_neg (by omega)]
    refine ⟨_, rfl, fun _ => ?_⟩
    rw [List.take_of_length_le (by omega)] at hn
    exact hn
  | succ d ih =>
    intro k i hi hk hn
    obtain ⟨k, rfl⟩ : ∃ m, k = m + 1 := ⟨k - 1, by omega⟩
    have h : i < l.length := by omega
    have hxi := hx _ (List.getElem_mem h)
    have ht := acts_take l i h
    have hw1 : wrap64 (wrap64 (((acts_n (l.take i) : Nat) : Int) + 1) + (l[i].f2.length : Int)) = ((acts_n (l.take (i + 1)) : Nat) : Int) := by rw [ht]; unfold wrap64; omega
    have hw2 : wrap64 ((i : Int) + 1) = ((i + 1 : Nat) : Int) := by unfold wrap64; omega
    rw [winnowlaw1_beyond.l0, if_pos (by omega), if_pos (by omega), rd52_nat l i h, hw1, hw2]
    by_cases hc : ((acts_n (l.take (i + 1)) : Nat) : Int) > 2147483647
    · rw [if_pos hc]
      exact ⟨_, rfl, fun e => by cases e⟩
    · rw [if_neg hc]
      exact ih k (i + 1) (by omega) (by omega) (by omega)
theorem beyond_eq (l : List S52) (hl : l.length ≤ 140737488351232) (hx : ∀ x ∈ l, x.f2.length ≤ 140737488351232) (k : Nat) (hk : l.length < k) : ∃ r, winnowlaw1_beyond.f k l = some r ∧ (r = false → acts_n l ≤ 2147483647) := by
  unfold winnowlaw1_beyond.f
  exact beyond_loop l hl hx l.length k 0 (by omega) hk (Nat.zero_le _)
theorem ext0 : extI 0 [] = 0 := by decide
theorem start1 {w w4 : World} {a0 : Nat} (hI : IsS46 w w4 a0 0 0) (hB : Below w.heap.size w w4) {W : World} (hW : W = (w4.alloc (.cells #[.int .u32 0, .int .i64 0] 46)).alloc (.cells #[.pointer (some ⟨a0, 0, none⟩), .pointer (some ⟨w4.heap.size, 0, none⟩)] 47)) :
    IsS46 w W a0 0 0 ∧ IsS46 w W w4.heap.size 0 0 ∧ W.heap[w4.heap.size + 1]? = some (.cells #[pt a0, pt w4.heap.size] 47 (0, 0)) ∧ W.heap.size = w4.heap.size + 2 ∧ a0 < w4.heap.size ∧ w.heap.size ≤ w4.heap.size ∧ Below w.heap.size w W := by
  subst hW
  have hs : (w4.alloc (.cells #[.int .u32 0, .int .i64 0] 46)).heap.size = w4.heap.size + 1 := by simp
  have h2 := heap_alloc_new (w4.alloc (.cells #[.int .u32 0, .int .i64 0] 46)) (.cells #[.pointer (some ⟨a0, 0, none⟩), .pointer (some ⟨w4.heap.size, 0, none⟩)] 47)
  rw [hs] at h2
  exact ⟨(hI.alloc _).alloc _, (IsS46.new w w4 0 0 hB).alloc _, h2, by simp, hI.lt, hB.size, below_alloc (below_alloc hB _) _⟩
theorem start2 {w W7 : World} {gr a0 a1 b0 b1 : Nat} (h0 : IsS46 w W7 a0 0 0) (h1 : IsS46 w W7 a1 0 0) (hr : W7.heap[gr]? = some (.cells #[pt a0, pt a1] 47 (0, 0))) (hrw : w.heap.size ≤ gr) (g0 : RB w W7 b0 (fun _ => False) []) (g1 : RB w W7 b1 (fun _ => False) [])
    (hB : Below w.heap.size w W7) (n1 : a0 < a1) (n2 : a1 < gr) (n3 : gr < b0) (n4 : b0 < b1) : 
    ∃ col a b, a 0 = a0 ∧ a 1 = a1 ∧ b 0 = b0 ∧ b 1 = b1 ∧ INV w (W7.alloc (.cells #[pt b0, pt b1] 50)) gr W7.heap.size col a b (fun _ => []) (fun _ => []) := by
  have l1 := g1.lt
  have ba := below_alloc (Below.refl W7.heap.size W7) (.cells #[pt b0, pt b1] 50)
  refine ⟨fun k => if k = gr then 1 else if k = W7.heap.size then 2 else if k = a0 then 3 else if k = a1 then 4 else if k = b0 then 5 else if k = b1 then 6 else 0, fun j => if j = 0 then a0 else a1, fun j => if j = 0 then b0 else b1, rfl, rfl, rfl, rfl,
    ⟨(ba.block _ (blk_lt hr)).trans hr, hrw, if_pos rfl⟩, ⟨heap_alloc_new W7 _, hB.size, ?_⟩, fun j hj => ?_, fun j hj => ?_, below_alloc hB _⟩
  · show (if W7.heap.size = gr then 1 else if W7.heap.size = W7.heap.size then 2 else _) = 2
    rw [if_neg (by omega), if_pos rfl]
  · rcases (show j = 0 ∨ j = 1 by omega) with rfl | rfl
    · refine ⟨by rw [ext0]; exact h0.below ba, ?_⟩
      show (if a0 = gr then 1 else if a0 = W7.heap.size then 2 else if a0 = a0 then 3 else _) = 3
      rw [if_neg (by omega), if_neg (by omega), if_pos rfl]
    · refine ⟨by rw [ext0]; exact h1.below ba, ?_⟩
      show (if a1 = gr then 1 else if a1 = W7.heap.size then 2 else if a1 = a0 then 3 else if a1 = a1 then 4 else _) = 4
      rw [if_neg (by omega), if_neg (by omega), if_neg (by omega), if_pos rfl]
  · rcases (show j = 0 ∨ j = 1 by omega) with rfl | rfl
    · refine ⟨(g0.below ba).mono (fun _ h => h.elim), ?_⟩
      show (if b0 = gr then 1 else if b0 = W7.heap.size then 2 else if b0 = a0 then 3 else if b0 = a1 then 4 else if b0 = b0 then 5 else _) = 5
      rw [if_neg (by omega), if_neg (by omega), if_neg (by omega), if_neg (by omega), if_pos rfl]
    · refine ⟨(g1.below ba).mono (fun _ h => h.elim), ?_⟩
      show (if b1 = gr then 1 else if b1 = W7.heap.size then 2 else if b1 = a0 then 3 else if b1 = a1 then 4 else if b1 = b0 then 5 else if b1 = b1 then 6 else _) = 6
      rw [if_neg (by omega), if_neg (by omega), if_neg (by omega), if_neg (by omega), if_neg (by omega), if_pos rfl]
theorem facts {w W : World} {gr gq gx : Nat} {col : Nat → Nat} {a b : Nat → Nat} {la lb : Nat → List Int} {v : Value} {L : List Int} {op who : Int} {sl : Value} (h : INV w W gr gq col a b la lb) (hE : EX w W col gx #[.int .i64 op, .int .i64 who, sl] v L) :
    (W.cell? ⟨gr, 0, none⟩ = some (.pointer (some ⟨a 0, 0, none⟩)) ∧ W.cell? ⟨gr, 1, none⟩ = some (.pointer (some ⟨a 1, 0, none⟩)) ∧ W.cell? ⟨gq, 0, none⟩ = some (.pointer (some ⟨b 0, 0, none⟩)) ∧ W.cell? ⟨gq, 1, none⟩ = some (.pointer (some ⟨b 1, 0, none⟩))) ∧
    (W.frozen? ⟨gr, 0, none⟩ = false ∧ W.frozen? ⟨gr, 1, none⟩ = false ∧ W.frozen? ⟨gq, 0, none⟩ = false ∧ W.frozen? ⟨gq, 1, none⟩ = false) ∧ W.cell? ⟨gx, 0, none⟩ = some (.int .i64 op) ∧ W.cell? ⟨gx, 2, none⟩ = some sl := by
  obtain ⟨⟨h1, _⟩, ⟨h4, _⟩, _⟩ := h
  obtain ⟨⟨hx, _⟩, _⟩ := hE
  exact ⟨⟨(two_get h1 0 (by omega)).1, (two_get h1 1 (by omega)).1, (two_get h4 0 (by omega)).1, (two_get h4 1 (by omega)).1⟩, ⟨(two_get h1 0 (by omega)).2, (two_get h1 1 (by omega)).2, (two_get h4 0 (by omega)).2, (two_get h4 1 (by omega)).2⟩, (blk_cell hx 0).trans rfl, (blk_cell hx 2).trans rfl⟩
theorem facts0 {w W : World} {gr gq : Nat} {col : Nat → Nat} {a b : Nat → Nat} {la lb : Nat → List Int} (h : INV w W gr gq col a b la lb) :
    W.cell? ⟨gr, 0, none⟩ = some (.pointer (some ⟨a 0, 0, none⟩)) ∧ W.cell? ⟨gr, 1, none⟩ = some (.pointer (some ⟨a 1, 0, none⟩)) ∧ W.cell? ⟨gq, 0, none⟩ = some (.pointer (some ⟨b 0, 0, none⟩)) ∧ W.cell? ⟨gq, 1, none⟩ = some (.pointer (some ⟨b 1, 0, none⟩)) := by
  obtain ⟨⟨h1, _⟩, ⟨h4, _⟩, _⟩ := h
  exact ⟨(two_get h1 0 (by omega)).1, (two_get h1 1 (by omega)).1, (two_get h4 0 (by omega)).1, (two_get h4 1 (by omega)).1⟩
/-- a round begins: the act's box and its list are new -/
theorem begin_ {w W W1 W2 : World} {gr gq : Nat} {col : Nat → Nat} {a b : Nat → Nat} {la lb : Nat → List Int} {X : Array Value} {v : Value} {L : List Int} (h : INV w W gr gq col a b la lb) (hx : W1.heap[W.heap.size]? = some (.cells X 52 (0, 0))) (hs : W1.heap.size = W.heap.size + 1) (hB : Below W.heap.size W W1)
    (hF : Kd.R (Kd.int .u8) 5 W2 W1.heap.size (fun _ => True) v L) (hB2 : Below W1.heap.size W1 W2) : ∃ col1, INV w W2 gr gq col1 a b la lb ∧ EX w W2 col1 W.heap.size X v L := by
  refine ⟨fun k => if k < W.heap.size then col k else if k = W.heap.size then 10 else 9, ((h.recol (fun k hk => if_pos hk)).below hB).below hB2, ⟨⟨(hB2.block _ (blk_lt hx)).trans hx, ?_⟩, ?_⟩⟩
  · show (if W.heap.size < W.heap.size then _ else if W.heap.size = W.heap.size then 10 else 9) = 10
    rw [if_neg (by omega), if_pos rfl]
  · refine Kd.R_lower (Kd.R_mono (Kd.R_bound hF) (fun k hk => ⟨?_, hk.2.2.1⟩)) (by have := h.2.2.2.2.size; omega)
    have := hk.2.1
    show (if k < W.heap.size then col k else if k = W.heap.size then 10 else 9) = 9
    rw [if_neg (by omega), if_neg (by omega)]
/-- one sum goes on, in the program -/
theorem goOnA {w W W2 : World} {gr gq gx : Nat} {col : Nat → Nat} {a b : Nat → Nat} {la lb : Nat → List Int} {X : Array Value} {v : Value} {L : List Int} (h : INV w W gr gq col a b la lb) (hE : EX w W col gx X v L) (j : Nat) (hj : j < 2) (m : List Int)
    (hI : IsS46 w W2 (a j) (extI 0 m) (m.length : Int)) (hk : KeepBut W W2 (a j) none) (hB : Below w.heap.size w W2) : INV w W2 gr gq col a b (upd la j m) lb ∧ EX w W2 col gx X v L := by
  have ca := (h.2.2.1 j hj).2
  exact ⟨h.setA j hj m hI hk hB, hE.kept (S := fun k => k = a j) ((Kept.refl W _).of_keep hk (.inl rfl)) (fun k _ e => by subst e; omega) (fun _ _ => rfl)⟩
/-- and in the document -/
theorem goOnB {w W W2 : World} {gr gq gx : Nat} {col : Nat → Nat} {a b : Nat → Nat} {la lb : Nat → List Int} {X : Array Value} {v : Value} {L : List Int} (h : INV w W gr gq col a b la lb) (hE : EX w W col gx X v L) (j : Nat) (hj : j < 2) (m : List Int)
    (hR : RB w W2 (b j) (fun k => (if k < W.heap.size then col k else 7 + j) = 7 + j) m) (hk : Kept W W2 (fun k => k = b j ∨ (if k < W.heap.size then col k else 7 + j) = 7 + j)) (hB : Below w.heap.size w W2) :
    ∃ col1, INV w W2 gr gq col1 a b la (upd lb j m) ∧ EX w W2 col1 gx X v L := by
  have cb := (h.2.2.2.1 j hj).2
  refine ⟨fun k => if k < W.heap.size then col k else 7 + j, (h.recol (fun k hk => if_pos hk)).setB j hj m hR hk hB, hE.kept hk (fun k hlt e => ?_) (fun k hk => if_pos hk)⟩
  rw [if_pos hlt] at e
  rcases e with e | e
  · subst e; omega
  · omega
theorem goOnB_pre {w W : World} {gr gq : Nat} {col : Nat → Nat} {a b : Nat → Nat} {la lb : Nat → List Int} (h : INV w W gr gq col a b la lb) (j : Nat) (hj : j < 2) :
    RB w W (b j) (fun k => (if k < W.heap.size then col k else 7 + j) = 7 + j) (lb j) ∧ (¬ (if b j < W.heap.size then col (b j) else 7 + j) = 7 + j) ∧ (∀ k, W.heap.size ≤ k → (if k < W.heap.size then col k else 7 + j) = 7 + j) := by
  obtain ⟨h1, h2⟩ := h.2.2.2.1 j hj
  refine ⟨RB.step h1 rfl (fun k hp hlt => ⟨rfl, by rw [if_pos hlt]; exact hp⟩), ?_, fun k hk => if_neg (by omega)⟩
  rw [if_pos h1.lt]
  omega
/-- a new one, in the program -/
theorem renewA {w W W1 : World} {gr gq gx : Nat} {col : Nat → Nat} {a b : Nat → Nat} {la lb : Nat → List Int} {X : Array Value} {v : Value} {L : List Int} (h : INV w W gr gq col a b la lb) (hE : EX w W col gx X v L) (j : Nat) (hj : j < 2) (g : Nat)
    (hI : IsS46 W W1 g 0 0) (hB : Below W.heap.size W W1) : ∃ col1 a1, INV w (W1.setCell ⟨gr, j, none⟩ (pt g)) gr gq col1 a1 b (upd la j []) lb ∧ EX w (W1.setCell ⟨gr, j, none⟩ (pt g)) col1 gx X v L := by
  have hc : ∀ k, k < W.heap.size → (if k < W.heap.size then col k else 3 + j) = col k := fun k hk => if_pos hk
  have hI' : IsS46 w W1 g (extI 0 []) 0 := ⟨by rw [ext0]; exact hI.1, Nat.le_trans h.2.2.2.2.size hI.2⟩
  have hgr := blk_lt h.1.1
  have cgr := h.1.2.2
  obtain ⟨n1, n2⟩ := ((h.recol hc).below hB).newA j hj g hI' (if_neg (by have := hI.2; omega))
  refine ⟨_, _, n1, (hE.kept (S := fun _ => False) (Kept.of_below hB _) (fun _ _ h => h.elim) hc).kept n2 (fun k hlt e => ?_) (fun _ _ => rfl)⟩
  subst e
  rw [if_pos hgr]
  omega
theorem renewB {w W W1 : World} {gr gq gx : Nat} {col : Nat → Nat} {a b : Nat → Nat} {la lb : Nat → List Int} {X : Array Value} {v : Value} {L : List Int} (h : INV w W gr gq col a b la lb) (hE : EX w W col gx X v L) (j : Nat) (hj : j < 2) (g : Nat)
    (hR : RB w W1 g (fun _ => False) []) (hg : W.heap.size ≤ g) (hB : Below W.heap.size W W1) : ∃ col1 b1, INV w (W1.setCell ⟨gq, j, none⟩ (pt g)) gr gq col1 a b1 la (upd lb j []) ∧ EX w (W1.setCell ⟨gq, j, none⟩ (pt g)) col1 gx X v L := by
  have hc : ∀ k, k < W.heap.size → (if k < W.heap.size then col k else 5 + j) = col k := fun k hk => if_pos hk
  have hgq := blk_lt h.2.1.1
  have cgq := h.2.1.2.2
  obtain ⟨n1, n2⟩ := ((h.recol hc).below hB).newB j hj g (hR.mono (fun _ h => h.elim)) (if_neg (by omega))
  refine ⟨_, _, n1, (hE.kept (S := fun _ => False) (Kept.of_below hB _) (fun _ _ h => h.elim) hc).kept n2 (fun k hlt e => ?_) (fun _ _ => rfl)⟩
  subst e
  rw [if_pos hgq]
  omega
theorem EX.below {w W W2 : World} {col : Nat → Nat} {gx : Nat} {X : Array Value} {v : Value} {L : List Int} (h : EX w W col gx X v L) (hb : Below W.heap.size W W2) : EX w W2 col gx X v L :=
  h.kept (S := fun _ => False) (Kept.of_below hb _) (fun _ _ h => h.elim) (fun _ _ => rfl)
theorem INV.drew {w0 W : World} {gr gq : Nat} {col : Nat → Nat} {a b : Nat → Nat} {la lb : Nat → List Int} (h : INV w0 W gr gq col a b la lb) : INV w0 W.drew gr gq col a b la lb := h.below (below_drew1 (Below.refl _ _))
theorem EX.drew {w W : World} {col : Nat → Nat} {gx : Nat} {X : Array Value} {v : Value} {L : List Int} (h : EX w W col gx X v L) : EX w W.drew col gx X v L := h.below (below_drew1 (Below.refl _ _))
/-- what is told of both, at any world that holds them -/
theorem INV.sum {w W : World} {gr gq : Nat} {col : Nat → Nat} {a b : Nat → Nat} {la lb : Nat → List Int} (h : INV w W gr gq col a b la lb) (j : Nat) (hj : j < 2) : Calls Try.prog 36 #[.pointer (some ⟨a j, 0, none⟩)] W fun e w' => e = .returned (.int .u32 (extI 0 (la j))) ∧ Below W.heap.size W w' := CSum w _ _ _ _ (h.2.2.1 j hj).1
theorem INV.len {w W : World} {gr gq : Nat} {col : Nat → Nat} {a b : Nat → Nat} {la lb : Nat → List Int} (h : INV w W gr gq col a b la lb) (j : Nat) (hj : j < 2) : Calls Try.prog 38 #[.pointer (some ⟨a j, 0, none⟩)] W fun e w' => e = .returned (.int .i64 (la j).length) ∧ Below W.heap.size W w' := CLen w _ _ _ _ (h.2.2.1 j hj).1
theorem INV.rsum {w W : World} {gr gq : Nat} {col : Nat → Nat} {a b : Nat → Nat} {la lb : Nat → List Int} (h : INV w W gr gq col a b la lb) (j : Nat) (hj : j < 2) (hl : (lb j).length ≤ 2147483647) : Calls Try.prog 37 #[.pointer (some ⟨b j, 0, none⟩)] W fun e w' => e = .returned (.int .u32 (extI 0 (lb j))) ∧ Below W.heap.size W w' := RefSum w _ _ _ _ (by omega) (h.2.2.2.1 j hj).1
theorem INV.rlen {w W : World} {gr gq : Nat} {col : Nat → Nat} {a b : Nat → Nat} {la lb : Nat → List Int} (h : INV w W gr gq col a b la lb) (j : Nat) (hj : j < 2) (hl : (lb j).length ≤ 2147483647) : Calls Try.prog 39 #[.pointer (some ⟨b j, 0, none⟩)] W fun e w' => e = .returned (.int .i64 (lb j).length) ∧ Below W.heap.size W w' := RefLen w _ _ _ _ (by omega) (h.2.2.2.1 j hj).1
/-- both sums, with the act's box -/
def JNV (w : World) (gr gq gx : Nat) (X : Array Value) (col : Nat → Nat) (a b : Nat → Nat) (la : Nat → List Int) (W : World) : Prop := INV w W gr gq col a b la la ∧ W.heap[gx]? = some (.cells X 52 (0, 0))
theorem JNV.below {w W W2 : World} {gr gq gx : Nat} {X : Array Value} {col : Nat → Nat} {a b : Nat → Nat} {la : Nat → List Int} (h : JNV w gr gq gx X col a b la W) (hb : Below W.heap.size W W2) : JNV w gr gq gx X col a b la W2 := ⟨h.1.below hb, (hb.block _ (blk_lt h.2)).trans h.2⟩
theorem JNV.drew {w W : World} {gr gq gx : Nat} {X : Array Value} {col : Nat → Nat} {a b : Nat → Nat} {la : Nat → List Int} (h : JNV w gr gq gx X col a b la W) : JNV w gr gq gx X col a b la W.drew := h.below (below_drew1 (Below.refl _ _))
theorem JNV.cells {w W : World} {gr gq gx : Nat} {op who : Int} {sl : Value} {col : Nat → Nat} {a b : Nat → Nat} {la : Nat → List Int} (h : JNV w gr gq gx #[.int .i64 op, .int .i64 who, sl] col a b la W) :
    (W.cell? ⟨gr, 0, none⟩ = some (.pointer (some ⟨a 0, 0, none⟩)) ∧ W.cell? ⟨gr, 1, none⟩ = some (.pointer (some ⟨a 1, 0, none⟩)) ∧ W.cell? ⟨gq, 0, none⟩ = some (.pointer (some ⟨b 0, 0, none⟩)) ∧ W.cell? ⟨gq, 1, none⟩ = some (.pointer (some ⟨b 1, 0, none⟩))) ∧ W.cell? ⟨gx, 0, none⟩ = some (.int .i64 op) :=
  ⟨facts0 h.1, (blk_cell h.2 0).trans rfl⟩
theorem JNV.inv {w W : World} {gr gq gx : Nat} {X : Array Value} {col : Nat → Nat} {a b : Nat → Nat} {la : Nat → List Int} (h : JNV w gr gq gx X col a b la W) : INV w W gr gq col a b la la := h.1
/-- the act's list is written over -/
theorem over {w W W2 : World} {gr gq gx : Nat} {col : Nat → Nat} {a b : Nat → Nat} {la lb : Nat → List Int} {X : Array Value} {v : Value} {L : List Int} (h : INV w W gr gq col a b la lb) (hE : EX w W col gx X v L) (hk : Kept W W2 (fun k => col k = 9 ∧ k < W.heap.size)) (hB : Below w.heap.size w W2) :
    INV w W2 gr gq col a b la lb ∧ W2.heap[gx]? = some (.cells X 52 (0, 0)) := by
  refine ⟨h.kept hk (fun k _ e => .inr (by omega)) hB, ?_⟩
  obtain ⟨⟨h1, h2⟩, _⟩ := hE
  exact blk_kept h1 hk (by omega)
theorem upd_len {la : Nat → List Int} {n n2 : Nat} (h : ∀ j, j < 2 → (la j).length ≤ n) (i : Nat) (m : List Int) (hm : m.length ≤ n2) (hn : n ≤ n2) : ∀ j, j < 2 → (upd la i m j).length ≤ n2 := by
  intro j hj
  by_cases e : j = i
  · subst e; rw [upd_self]; exact hm
  · rw [upd_ne _ _ _ _ e]; have := h j hj; omega
end Go.Proofs.Ytghajggnakhobaa.P
