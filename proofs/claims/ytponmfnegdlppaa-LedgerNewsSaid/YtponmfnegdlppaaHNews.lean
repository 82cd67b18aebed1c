/- The walk of the law on new books. -/
import Derived.Test.YtponmfnegdlppaaHApart
import Derived.Test.YtponmfnegdlppaaPf4
import Derived.Test.YtponmfnegdlppaaPf5
namespace Go.Proofs.Ytponmfnegdlppaa.P
open Go.RowKit Go.Proofs.YtponmfnegdlppaaW.PrintWords Go.Proofs.YtponmfnegdlppaaW.PrintLast Go.Proofs.YtponmfnegdlppaaW.PrintMore
set_option linter.unusedVariables false
set_option linter.unusedSimpArgs false

theorem New_eq (a b c : Int) : ∃ (t : Int) (l0 l1 : List S33) (fl : Bool) (e : Int), ledger_New.f a b c = some (t, l0, l1, fl, e) ∧ winnowref19_New.f a b c = some (t, l0, l1, fl, e) ∧ l0.length ≤ 100000 ∧ l1.length ≤ 100000 := by
  unfold ledger_New.f winnowref19_New.f
  by_cases h1 : a < 0
  · rw [if_pos h1]; exact ⟨_, _, _, _, _, rfl, rfl, by simp, by simp⟩
  rw [if_neg h1]
  by_cases h2 : a > 256
  · rw [if_pos h2]; exact ⟨_, _, _, _, _, rfl, rfl, by simp, by simp⟩
  rw [if_neg h2]
  by_cases h3 : b < 1
  · rw [if_pos h3]; exact ⟨_, _, _, _, _, rfl, rfl, by simp, by simp⟩
  rw [if_neg h3]
  by_cases h4 : b > 65535
  · rw [if_pos h4]; exact ⟨_, _, _, _, _, rfl, rfl, by simp, by simp⟩
  rw [if_neg h4]
  by_cases h5 : c < 1
  · rw [if_pos h5]; exact ⟨_, _, _, _, _, rfl, rfl, by simp, by simp⟩
  rw [if_neg h5]
  by_cases h6 : c > 16
  · rw [if_pos h6]; exact ⟨_, _, _, _, _, rfl, rfl, by simp, by simp⟩
  rw [if_neg h6, if_pos (show 0 ≤ a by omega), if_pos (show a.toNat ≤ 11728124029610 by omega), if_pos (show 0 ≤ b by omega), if_pos (show b.toNat ≤ 11728124029610 by omega)]
  exact ⟨_, _, _, _, _, rfl, rfl, by rw [List.length_replicate]; omega, by rw [List.length_replicate]; omega⟩
/-- A row of the call's own, told by its one block and where that lies. -/
theorem own_tight {W : World} {B base : Nat} {P : Nat → Prop} {v : Value} {l : List S33} (h : Kd.R k33 33 W B P v l) (hb : base ≤ B) : Kd.R k33 33 W base (fun k => some k = v.ownBlock ∧ P k ∧ B ≤ k ∧ k < W.heap.size) v l :=
  Kd.R_lower (Kd.R_mono (Kd.R_bound (Kd.R_tight rfl h)) (fun k hk => ⟨hk.1, h.1 k hk.1.symm, hk.2.1, hk.2.2.1⟩)) hb

set_option maxHeartbeats 4000000 in
set_option maxRecDepth 100000 in
theorem LedgerNews_walk (a b c : Int) (w : World) : Calls Try.prog 3 #[.int .i64 a, .int .i64 b, .int .i64 c] w fun e w' => e = .returned (.bool true) ∧ Below w.heap.size w w' := by
  obtain ⟨t, l0, l1, fl, er, n1, n2, hl0, hl1⟩ := New_eq a b c
  have N1 := Aside0.mk n1
  have N2 := Aside0.mk n2
  have HL0 := Aside0.mk hl0
  have HL1 := Aside0.mk hl1
  clear n1 n2 hl0 hl1
  have hu22 := Try.underlying22
  have hu33 := Try.underlying33
  have hu24 := Try.underlying24
  go_enter Try.func3, Try.ntmps3
  go_wp2_with fail
  refine (ledger_New.calls a b c t l0 l1 fl er w N1.out).mono ?_
  rintro e w1 ⟨u0, u1, rfl, hU0, hU1, hB1⟩
  have HU0 := Aside0.mk (own_tight hU0 (Nat.le_refl _))
  have HU1 := Aside0.mk (own_tight hU1 (Nat.le_refl _))
  have HB1 := Aside0.mk hB1
  obtain ⟨A0, c0, rfl⟩ := Kd.R_slice hU0
  obtain ⟨A1, c1, rfl⟩ := Kd.R_slice hU1
  clear hU0 hU1 hB1
  go_wp2_with fail
  have ra := heap_alloc_new w1 (.cells #[.int .i64 t, .slice A0 l0.length c0, .slice A1 l1.length c1, .bool fl] 24)
  have ba := below_alloc (Below.refl w1.heap.size w1) (.cells #[.int .i64 t, .slice A0 l0.length c0, .slice A1 l1.length c1, .bool fl] 24)
  have sa : (w1.alloc (.cells #[.int .i64 t, .slice A0 l0.length c0, .slice A1 l1.length c1, .bool fl] 24)).heap.size = w1.heap.size + 1 := by simp
  generalize w1.alloc (.cells #[.int .i64 t, .slice A0 l0.length c0, .slice A1 l1.length c1, .bool fl] 24) = W1 at ra ba sa ⊢
  have HBa := Aside0.mk (below_step HB1.out ba)
  have HSA := Aside0.mk sa
  have HRA := Aside0.mk ra
  have HU0a := Aside0.mk (Kd.R_below HU0.out ba)
  have HU1a := Aside0.mk (Kd.R_below HU1.out ba)
  clear ra ba sa HU0 HU1 HB1
  refine (ledger_New.calls a b c t l0 l1 fl er W1 N1.out).mono ?_
  rintro e w2 ⟨v0, v1, rfl, hV0, hV1, hB2⟩
  have HV0 := Aside0.mk (own_tight hV0 (below_size HBa.out))
  have HV1 := Aside0.mk (own_tight hV1 (below_size HBa.out))
  have HB2 := Aside0.mk (below_step HBa.out hB2)
  have HS2 := Aside0.mk hB2.size
  have HRA2 := Aside0.mk ((hB2.block _ (Array.getElem?_eq_some_iff.1 HRA.out).1).trans HRA.out)
  have HU0b := Aside0.mk (Kd.R_below HU0a.out hB2)
  have HU1b := Aside0.mk (Kd.R_below HU1a.out hB2)
  obtain ⟨D0, d0, rfl⟩ := Kd.R_slice hV0
  obtain ⟨D1, d1, rfl⟩ := Kd.R_slice hV1
  clear hV0 hV1 hB2 HU0a HU1a HRA HBa
  go_wp2_with fail
  have rb := heap_alloc_new w2 (.cells #[.int .i64 t, .slice D0 l0.length d0, .slice D1 l1.length d1, .bool fl] 24)
  have bb := below_alloc (Below.refl w2.heap.size w2) (.cells #[.int .i64 t, .slice D0 l0.length d0, .slice D1 l1.length d1, .bool fl] 24)
  have sb : (w2.alloc (.cells #[.int .i64 t, .slice D0 l0.length d0, .slice D1 l1.length d1, .bool fl] 24)).heap.size = w2.heap.size + 1 := by simp
  generalize w2.alloc (.cells #[.int .i64 t, .slice D0 l0.length d0, .slice D1 l1.length d1, .bool fl] 24) = W2 at rb bb sb ⊢
  have HBb := Aside0.mk (below_step HB2.out bb)
  have HSB := Aside0.mk sb
  have HRB := Aside0.mk rb
  have HRA3 := Aside0.mk ((bb.block _ (Array.getElem?_eq_some_iff.1 HRA2.out).1).trans HRA2.out)
  have HU0c := Aside0.mk (Kd.R_below HU0b.out bb)
  have HU1c := Aside0.mk (Kd.R_below HU1b.out bb)
  have HV0c := Aside0.mk (Kd.R_below HV0.out bb)
  have HV1c := Aside0.mk (Kd.R_below HV1.out bb)
  clear rb bb sb HU0b HU1b HV0 HV1 HB2 HRA2
  refine (winnowref19_New.calls a b c t l0 l1 fl er W2 N2.out).mono ?_
  rintro e w3 ⟨z0, z1, rfl, hZ0, hZ1, hB3⟩
  have HZ0 := Aside0.mk (own_tight hZ0 (below_size HBb.out))
  have HZ1 := Aside0.mk (own_tight hZ1 (below_size HBb.out))
  have HB3 := Aside0.mk (below_step HBb.out hB3)
  have HS3 := Aside0.mk hB3.size
  have HRA4 := Aside0.mk ((hB3.block _ (Array.getElem?_eq_some_iff.1 HRA3.out).1).trans HRA3.out)
  have HRB4 := Aside0.mk ((hB3.block _ (Array.getElem?_eq_some_iff.1 HRB.out).1).trans HRB.out)
  have HU0d := Aside0.mk (Kd.R_below HU0c.out hB3)
  have HU1d := Aside0.mk (Kd.R_below HU1c.out hB3)
  have HV0d := Aside0.mk (Kd.R_below HV0c.out hB3)
  have HV1d := Aside0.mk (Kd.R_below HV1c.out hB3)
  obtain ⟨E0, f0, rfl⟩ := Kd.R_slice hZ0
  obtain ⟨E1, f1, rfl⟩ := Kd.R_slice hZ1
  clear hZ0 hZ1 hB3 HU0c HU1c HV0c HV1c HRA3 HRB HBb
  obtain ⟨W3, hW3⟩ : ∃ W, W = w3.alloc (.cells #[.int .i64 t, .slice E0 l0.length f0, .slice E1 l1.length f1, .bool fl] 24) := ⟨_, rfl⟩
  have bc := below_alloc (Below.refl w3.heap.size w3) (.cells #[.int .i64 t, .slice E0 l0.length f0, .slice E1 l1.length f1, .bool fl] 24)
  have rc := heap_alloc_new w3 (.cells #[.int .i64 t, .slice E0 l0.length f0, .slice E1 l1.length f1, .bool fl] 24)
  rw [← hW3] at bc rc
  have ra := (bc.block _ (Array.getElem?_eq_some_iff.1 HRA4.out).1).trans HRA4.out
  have rb := (bc.block _ (Array.getElem?_eq_some_iff.1 HRB4.out).1).trans HRB4.out
  have GA := Aside0.mk (apart_any _ _ _ _ _ _ t fl _ _ _ _ _ _ l0 l1 w W3 (below_step HB3.out bc) (Kd.R_below HU0d.out bc) (Kd.R_below HU1d.out bc) (Kd.R_below HV0d.out bc) (Kd.R_below HV1d.out bc) (Kd.R_below HZ0.out bc) (Kd.R_below HZ1.out bc)
    (fun k a b => a.2.1 b.1)
    (fun k q p => by have := HSA.out; have := HSB.out; have := HS2.out; have := HS3.out; rcases p with p | p <;> rcases q with q | q | q | q <;> (have := p.2.2; have := q.2.2; omega))
    (fun k q => ⟨fun p => q.2.1 p.1, fun p => by have := HSA.out; have := HSB.out; have := HS2.out; have := HS3.out; have := p.2.2; have := q.2.2; omega⟩) HL0.out HL1.out)
  have xa0 : W3.cell? ⟨w1.heap.size, 0, none⟩ = some (.int .i64 t) := by rw [cell_of_row _ _ _ _ _ _ ra]; rfl
  have xa1 : W3.cell? ⟨w1.heap.size, 1, none⟩ = some (.slice A0 l0.length c0) := by rw [cell_of_row _ _ _ _ _ _ ra]; rfl
  have xa2 : W3.cell? ⟨w1.heap.size, 2, none⟩ = some (.slice A1 l1.length c1) := by rw [cell_of_row _ _ _ _ _ _ ra]; rfl
  have xa3 : W3.cell? ⟨w1.heap.size, 3, none⟩ = some (.bool fl) := by rw [cell_of_row _ _ _ _ _ _ ra]; rfl
  have xb0 : W3.cell? ⟨w2.heap.size, 0, none⟩ = some (.int .i64 t) := by rw [cell_of_row _ _ _ _ _ _ rb]; rfl
  have xb1 : W3.cell? ⟨w2.heap.size, 1, none⟩ = some (.slice D0 l0.length d0) := by rw [cell_of_row _ _ _ _ _ _ rb]; rfl
  have xb2 : W3.cell? ⟨w2.heap.size, 2, none⟩ = some (.slice D1 l1.length d1) := by rw [cell_of_row _ _ _ _ _ _ rb]; rfl
  have xb3 : W3.cell? ⟨w2.heap.size, 3, none⟩ = some (.bool fl) := by rw [cell_of_row _ _ _ _ _ _ rb]; rfl
  have xc0 : W3.cell? ⟨w3.heap.size, 0, none⟩ = some (.int .i64 t) := by rw [cell_of_row _ _ _ _ _ _ rc]; rfl
  have xc1 : W3.cell? ⟨w3.heap.size, 1, none⟩ = some (.slice E0 l0.length f0) := by rw [cell_of_row _ _ _ _ _ _ rc]; rfl
  have xc2 : W3.cell? ⟨w3.heap.size, 2, none⟩ = some (.slice E1 l1.length f1) := by rw [cell_of_row _ _ _ _ _ _ rc]; rfl
  have xc3 : W3.cell? ⟨w3.heap.size, 3, none⟩ = some (.bool fl) := by rw [cell_of_row _ _ _ _ _ _ rc]; rfl
  have HW3 := Aside0.mk hW3
  clear ra rb rc bc hW3 HRA4 HRB4 HU0d HU1d HV0d HV1d HZ0 HZ1 HSA HSB HS2 HS3 HB3
  go_wp2_with (rw [← HW3.out])
  refine GA.out.mono ?_
  rintro e w4 ⟨rfl, hB4⟩
  have HB4 := Aside0.mk hB4
  clear GA hB4
  go_wp2_with fail
  go_ret
  exact ⟨rfl, HB4.out⟩

/-- The law as a function with a contract: true. -/
def winnowlaw19_LedgerNews.f (a b c : Int) : Option Bool := some true
theorem winnowlaw19_LedgerNews.calls (a b c : Int) (r : Bool) (w : World) (h : winnowlaw19_LedgerNews.f a b c = some r) :
    Calls Try.prog 3 #[.int .i64 a, .int .i64 b, .int .i64 c] w fun e w' => e = .returned (.bool r) ∧ Below w.heap.size w w' := by
  injection h with h
  subst h
  exact LedgerNews_walk a b c w
end Go.Proofs.Ytponmfnegdlppaa.P
