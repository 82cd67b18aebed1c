/- sortbuf.Sort: the contract in the printer's form. -/
import Derived.Test.YtljahmnilmjlpaaHSorted
namespace Go.Proofs.Ytljahmnilmjlpaa.Hand
open Go.RowKit Go.Proofs.YtljahmnilmjlpaaW.PrintWords Go.Proofs.YtljahmnilmjlpaaW.PrintLast Go.Proofs.Ytljahmnilmjlpaa.P
set_option linter.unusedVariables false
set_option linter.unusedSimpArgs false

/-- what Sort answers -/
def sortbuf_Sort.f (l : List S23) : Option (List S23) := if l.length ≤ 3518437208882 ∧ (∀ x ∈ l, x.f1.size ≤ 140737488351232) then some (St.isort leR l) else none
set_option maxHeartbeats 1000000 in
theorem sortbuf_Sort.calls (A0 : Option Addr) (c0 : Nat) (l0 : List S23) (r : List S23) (w : World) (hr0 : Kd.C k23 w A0 l0.length l0) (hc0 : l0.length ≤ c0) (h : sortbuf_Sort.f l0 = some r) :
    Calls Try.prog 13 #[.slice A0 l0.length c0] w fun e w' => ∃ v0_ : Value, e = .returned (v0_) ∧ Kd.R k23 23 w' w.heap.size (fun _ => True) v0_ r ∧ Below w.heap.size w w' := by
  unfold sortbuf_Sort.f at h
  by_cases hc : l0.length ≤ 3518437208882 ∧ (∀ x ∈ l0, x.f1.size ≤ 140737488351232)
  · rw [if_pos hc] at h
    injection h with h
    subst h
    have H := Aside0.mk (sorted_any A0 c0 l0 w hr0 hc0 hc.2 hc.1)
    clear hr0 hc0 hc
    go_enter Try.func13, Try.ntmps13
    go_wp2_with fail
    refine H.out.mono ?_
    rintro e w1 ⟨v, rfl, hR, hB⟩
    obtain ⟨Av, cv, rfl⟩ := Kd.R_slice hR
    have HR := Aside0.mk hR
    have HB := Aside0.mk hB
    clear hR hB H
    go_wp2_with fail
    go_ret
    exact ⟨_, rfl, HR.out, HB.out⟩
  · rw [if_neg hc] at h
    cases h
end Go.Proofs.Ytljahmnilmjlpaa.Hand
