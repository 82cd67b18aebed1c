/- A buffer's Take: contract by hand. -/
import Derived.Test.YtljahmnilmjlpaaHBuf
namespace Go.Proofs.Ytljahmnilmjlpaa.P
open Go.RowKit Go.Proofs.YtljahmnilmjlpaaW.PrintWords Go.Proofs.YtljahmnilmjlpaaW.PrintLast Go.Proofs.YtljahmnilmjlpaaW.PrintMore Go.Proofs.Ytljahmnilmjlpaa.Hand
set_option linter.unusedVariables false
set_option linter.unusedSimpArgs false
theorem BUF.clear {w0 w W : World} {g : Nat} {P : Nat → Prop} {l : List S23} {cost most : Int} (h : BUF w0 W g P l cost most) (hk : Kept w W (fun k => k = g)) (hB : Below w0.heap.size w0 W) :
    BUF w0 ((W.setCell ⟨g, 0, none⟩ (.slice none 0 0)).setCell ⟨g, 1, none⟩ (.int .i64 0)) g P [] 0 most ∧ Kept w ((W.setCell ⟨g, 0, none⟩ (.slice none 0 0)).setCell ⟨g, 1, none⟩ (.int .i64 0)) (fun k => k = g) ∧ Below w0.heap.size w0 ((W.setCell ⟨g, 0, none⟩ (.slice none 0 0)).setCell ⟨g, 1, none⟩ (.int .i64 0)) ∧
      Kept W ((W.setCell ⟨g, 0, none⟩ (.slice none 0 0)).setCell ⟨g, 1, none⟩ (.int .i64 0)) (fun k => k = g) := by
  obtain ⟨u, h1, h2, h3⟩ := h
  have e1 : (W.setCell ⟨g, 0, none⟩ (.slice none 0 0)).heap[g]? = some (.cells #[.slice none 0 0, .int .i64 cost, .int .i64 most] 54 (0, 0)) := by simpa using blk_set h1 0 (.slice none 0 0)
  exact ⟨⟨.slice none 0 0, by simpa using blk_set e1 1 (.int .i64 0), h2, Kd.R_nil _ _ _ _ _⟩, (hk.setCell (p := ⟨g, 0, none⟩) (.inl rfl) _).setCell (p := ⟨g, 1, none⟩) (.inl rfl) _, (hB.setCell h2 _).setCell h2 _, ((Kept.refl W (fun k => k = g)).setCell (p := ⟨g, 0, none⟩) (.inl rfl) _).setCell (p := ⟨g, 1, none⟩) (.inl rfl) _⟩
set_option maxHeartbeats 4000000 in
theorem BTake (w0 w : World) (g : Nat) (P : Nat → Prop) (l : List S23) (cost most : Int) (hB : Below w0.heap.size w0 w) (h : BUF w0 w g P l cost most) (hl : l.length ≤ 3518437208882) (hx : okR l) : Calls Try.prog 24 #[.pointer (some ⟨g, 0, none⟩)] w fun e w' => ∃ v, e = .returned v ∧
    Kd.R k23 23 w' w.heap.size (fun _ => True) v (St.isort leR l) ∧ BUF w0 w' g P [] 0 most ∧ Kept w w' (fun k => k = g) ∧ Below w0.heap.size w0 w' := by
  have hS : sortbuf_Sort.f l = some (St.isort leR l) := by unfold sortbuf_Sort.f; rw [if_pos ⟨hl, hx⟩]
  obtain ⟨u, h1, h2, h3⟩ := h
  obtain ⟨A, c, rfl, hcp, hC⟩ := Kd.R_reads h3
  have hx0 : w.cell? ⟨g, 0, none⟩ = some (.slice A l.length c) := (blk_cell h1 0).trans rfl
  have GK := Aside0.mk (fun (W : World) (hW : Below w.heap.size w W) => (sortbuf_Sort.calls A c l _ W (Kd.C_below hC hW) hcp hS).mono (R' := fun e w' => ∃ v, e = .returned v ∧ Kd.R k23 23 w' W.heap.size (fun _ => True) v (St.isort leR l) ∧ Below w.heap.size w w') (fun e w' ⟨v, q1, q2, q3⟩ => ⟨v, q1, q2, below_step hW q3⟩))
  have H := Aside0.mk (show BUF w0 w g P l cost most from ⟨_, h1, h2, h3⟩)
  have HB := Aside0.mk hB
  have HG := Aside0.mk (blk_lt h1)
  clear h1 h2 h3 hcp hC hB hl hx hS
  go_enter Try.func24, Try.ntmps24
  go_wp2_with fail
  refine (GK.out w (Below.refl _ _)).mono ?_
  rintro e w2 ⟨v, rfl, hR, hB2⟩
  obtain ⟨Av, cv, rfl⟩ := Kd.R_slice hR
  have hM := H.out.below hB2
  have G := Aside0.mk (hM.clear (w := w) (Kept.of_below hB2 _) (below_step HB.out hB2))
  have HR := Aside0.mk (Kd.R_kept (Kd.R_mono (Kd.R_bound hR) (ok' := fun k => w.heap.size ≤ k) (fun k hk => hk.2.1)) G.out.2.2.2 (fun k hk e => by have := HG.out; omega))
  obtain ⟨u, h1, _, _⟩ := hM
  have c0 : w2.cell? ⟨g, 0, none⟩ = some u := (blk_cell h1 0).trans rfl
  have c1 : w2.cell? ⟨g, 1, none⟩ = some (.int .i64 cost) := (blk_cell h1 1).trans rfl
  have f0 := blk_frozen h1 0
  have f1 := blk_frozen h1 1
  clear h1 hR hB2 hx0 GK H HB
  go_wp2_with fail
  go_ret
  exact ⟨_, rfl, Kd.R_mono HR.out (fun _ _ => trivial), G.out.1, G.out.2.1, G.out.2.2.1⟩
end Go.Proofs.Ytljahmnilmjlpaa.P
