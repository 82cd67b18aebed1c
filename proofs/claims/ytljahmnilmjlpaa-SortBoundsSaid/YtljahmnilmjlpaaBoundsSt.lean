/- A buffer and the merge of what was taken, from record to record. -/
import Derived.Test.YtljahmnilmjlpaaHBufAdd
import Derived.Test.YtljahmnilmjlpaaHBufTake
import Derived.Test.YtljahmnilmjlpaaBoundsPlain
namespace Go.Proofs.Ytljahmnilmjlpaa.P
open Go.RowKit Go.Proofs.YtljahmnilmjlpaaW.PrintWords Go.Proofs.YtljahmnilmjlpaaW.PrintLast Go.Proofs.YtljahmnilmjlpaaW.PrintMore Go.Proofs.Ytljahmnilmjlpaa.Hand
set_option linter.unusedVariables false
set_option linter.unusedSimpArgs false

def csum (l : List S23) : Int := ((l.map cst).sum : Nat)
theorem csum_add (l : List S23) (x : S23) : csum (l ++ [x]) = csum l + cst x := by
  unfold csum
  rw [List.map_append, List.sum_append]
  simp
theorem csum_nonneg (l : List S23) : 0 ≤ csum l := Int.natCast_nonneg _
def ST (w0 W : World) (g : Nat) (M : Int) (col : Nat → Nat) (seg : List S23) (va : Value) (al : List S23) : Prop :=
  BUF w0 W g (fun k => col k = 2) seg (csum seg) M ∧ col g = 1 ∧ Kd.R k23 23 W w0.heap.size (fun k => col k = 3) va al ∧ Below w0.heap.size w0 W
theorem ST.below {w0 W W2 : World} {g : Nat} {M : Int} {col : Nat → Nat} {seg al : List S23} {va : Value} (h : ST w0 W g M col seg va al) (hb : Below W.heap.size W W2) : ST w0 W2 g M col seg va al :=
  ⟨h.1.below hb, h.2.1, Kd.R_below h.2.2.1 hb, below_step h.2.2.2 hb⟩
theorem ST.drew {w0 W : World} {g : Nat} {M : Int} {col : Nat → Nat} {seg al : List S23} {va : Value} (h : ST w0 W g M col seg va al) : ST w0 W.drew g M col seg va al := h.below (below_drew1 (Below.refl _ _))
theorem ST.start {w0 W : World} {g : Nat} {M : Int} (h : BUF w0 W g (fun _ => False) [] 0 M) (hB : Below w0.heap.size w0 W) : ∃ col, ST w0 W g M col [] (.slice none 0 0) [] :=
  ⟨fun k => if k = g then 1 else 0, h.step rfl (fun _ hk => hk.elim), if_pos rfl, Kd.R_nil _ _ _ _ _, hB⟩
theorem ST.used {w0 W : World} {g : Nat} {M : Int} {col : Nat → Nat} {seg al : List S23} {va : Value} (h : ST w0 W g M col seg va al) (z : Int) (hz : z = csum seg) : Calls Try.prog 28 #[.pointer (some ⟨g, 0, none⟩)] W fun e w' => e = .returned (.int .i64 z) ∧ Below W.heap.size W w' := by
  subst hz
  exact BUsed w0 W g _ seg _ M h.1
theorem ST.len {w0 W : World} {g : Nat} {M : Int} {col : Nat → Nat} {seg al : List S23} {va : Value} (h : ST w0 W g M col seg va al) (z : Int) (hz : z = (seg.length : Int)) : Calls Try.prog 26 #[.pointer (some ⟨g, 0, none⟩)] W fun e w' => e = .returned (.int .i64 z) ∧ Below W.heap.size W w' := by
  subst hz
  exact BLen w0 W g _ seg _ M h.1
theorem ST.recol {w0 W : World} {g : Nat} {M : Int} {col : Nat → Nat} {seg al : List S23} {va : Value} (h : ST w0 W g M col seg va al) (n : Nat) :
    BUF w0 W g (fun k => (if k < W.heap.size then col k else n) = 2) seg (csum seg) M ∧ (if g < W.heap.size then col g else n) = 1 ∧ Kd.R k23 23 W w0.heap.size (fun k => (if k < W.heap.size then col k else n) = 3) va al := by
  obtain ⟨h1, h2, h3, h4⟩ := h
  refine ⟨h1.step rfl (fun k hp hlt => ⟨rfl, by rw [if_pos hlt]; exact hp⟩), by rw [if_pos h1.lt]; exact h2, ?_⟩
  exact Kd.R_mono (Kd.R_bound h3) (fun k hk => by rw [if_pos hk.2.2.1]; exact hk.1)
theorem ST.added {w0 W W2 : World} {g : Nat} {M : Int} {col : Nat → Nat} {seg al : List S23} {va : Value} {x : S23} (h : ST w0 W g M col seg va al) (hb : BUF w0 W2 g (fun k => (if k < W.heap.size then col k else 2) = 2) (seg ++ [x]) (csum seg + cst x) M)
    (hk : Kept W W2 (fun k => k = g ∨ (if k < W.heap.size then col k else 2) = 2)) (hB : Below w0.heap.size w0 W2) : ∃ col1, ST w0 W2 g M col1 (seg ++ [x]) va al := by
  obtain ⟨_, r2, r3⟩ := h.recol 2
  refine ⟨_, by rw [csum_add]; exact hb, r2, Kd.R_kept r3 hk (fun k hp e => ?_), hB⟩
  rcases e with e | e
  · subst e; rw [r2] at hp; cases hp
  · rw [e] at hp; cases hp
theorem ST.add_pre {w0 W : World} {g : Nat} {M : Int} {col : Nat → Nat} {seg al : List S23} {va : Value} (h : ST w0 W g M col seg va al) : (¬ (if g < W.heap.size then col g else 2) = 2) ∧ ∀ k, W.heap.size ≤ k → (if k < W.heap.size then col k else 2) = 2 :=
  ⟨by rw [(h.recol 2).2.1]; decide, fun k hk => if_neg (by omega)⟩
theorem ST.addMore {w0 W : World} {g : Nat} {M : Int} {col : Nat → Nat} {seg al : List S23} {va : Value} (h : ST w0 W g M col seg va al) (x : S23) (hx : x.f1.size + x.f2.size ≤ 281474976710656) (hl : seg.length < 3518437208883) (hM : M ≤ 9223372036854775807) (hn : 0 < seg.length) (hc : csum seg + cst x ≤ M) :
    Calls Try.prog 22 #[.pointer (some ⟨g, 0, none⟩), .agg #[.int .i64 x.f0, .string x.f1, .string x.f2]] W fun e w' => e = .returned (.int .i64 0) ∧ ∃ col1, ST w0 w' g M col1 (seg ++ [x]) va al :=
  (BAddMore w0 W g _ seg _ M x hx h.2.2.2 (h.recol 2).1 h.add_pre.1 h.add_pre.2 hl (by have := csum_nonneg seg; omega) hn hc).mono (fun e w' q => ⟨q.1, h.added q.2.1 q.2.2.1 q.2.2.2⟩)
theorem ST.addOne {w0 W : World} {g : Nat} {M : Int} {col : Nat → Nat} {al : List S23} {va : Value} (h : ST w0 W g M col [] va al) (x : S23) (hx : x.f1.size + x.f2.size ≤ 281474976710656) :
    Calls Try.prog 22 #[.pointer (some ⟨g, 0, none⟩), .agg #[.int .i64 x.f0, .string x.f1, .string x.f2]] W fun e w' => e = .returned (.int .i64 0) ∧ ∃ col1, ST w0 w' g M col1 ([] ++ [x]) va al :=
  (BAddOne w0 W g _ [] _ M x hx h.2.2.2 (h.recol 2).1 h.add_pre.1 h.add_pre.2 (by simp) (by unfold csum cst; simp only [List.map_nil, List.sum_nil]; omega) rfl).mono (fun e w' q => ⟨q.1, h.added q.2.1 q.2.2.1 q.2.2.2⟩)
theorem ST.addFull {w0 W : World} {g : Nat} {M : Int} {col : Nat → Nat} {seg al : List S23} {va : Value} (h : ST w0 W g M col seg va al) (x : S23) (hx : x.f1.size + x.f2.size ≤ 281474976710656) (hn : 0 < seg.length) (hb : csum seg ≤ 562949953421312) (hc : M < csum seg + cst x) :
    Calls Try.prog 22 #[.pointer (some ⟨g, 0, none⟩), .agg #[.int .i64 x.f0, .string x.f1, .string x.f2]] W fun e w' => e = .returned (.int .i64 62) ∧ ST w0 w' g M col seg va al :=
  (BAddFull w0 W g _ seg _ M x hx h.1 hn (by have := csum_nonneg seg; unfold cst at hc ⊢; omega)).mono (fun e w' q => ⟨q.1, h.below q.2⟩)
theorem ST.take {w0 W : World} {g : Nat} {M : Int} {col : Nat → Nat} {seg al : List S23} {va : Value} (h : ST w0 W g M col seg va al) (hl : seg.length ≤ 3518437208882) (hx : okR seg) :
    Calls Try.prog 24 #[.pointer (some ⟨g, 0, none⟩)] W fun e w' => ∃ v, e = .returned v ∧ Kd.R k23 23 w' W.heap.size (fun _ => True) v (St.isort leR seg) ∧ ST w0 w' g M col [] va al :=
  (BTake w0 W g _ seg _ M h.2.2.2 h.1 hl hx).mono (fun e w' ⟨v, q1, q2, q3, q4, q5⟩ => ⟨v, q1, q2, q3, h.2.1, Kd.R_kept h.2.2.1 q4 (fun k hp e => by have := h.2.1; rw [e] at hp; omega), q5⟩)
theorem ST.merged {w0 W W2 : World} {g : Nat} {M : Int} {col : Nat → Nat} {seg al al2 : List S23} {va v2 : Value} (h : ST w0 W g M col seg va al) (hb : Below W.heap.size W W2) (hr : Kd.R k23 23 W2 W.heap.size (fun _ => True) v2 al2) : ∃ col1, ST w0 W2 g M col1 seg v2 al2 := by
  obtain ⟨r1, r2, _⟩ := h.recol 3
  refine ⟨_, r1.below hb, r2, Kd.R_lower (Kd.R_mono (Kd.R_bound hr) (fun k hk => if_neg (by have := hk.2.1; omega))) h.2.2.2.size, below_step h.2.2.2 hb⟩
end Go.Proofs.Ytljahmnilmjlpaa.P
