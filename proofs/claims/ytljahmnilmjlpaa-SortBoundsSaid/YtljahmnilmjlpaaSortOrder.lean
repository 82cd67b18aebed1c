/- The order of records is an order. -/
import Derived.Test.YtljahmnilmjlpaaHMerged
namespace Go.Proofs.Ytljahmnilmjlpaa.P
open Go.RowKit Go.Proofs.YtljahmnilmjlpaaW.PrintWords Go.Proofs.YtljahmnilmjlpaaW.PrintLast
set_option linter.unusedVariables false

theorem bl_nil_left (b : List UInt8) : Op.bytesLess [] b = !b.isEmpty := by cases b <;> rfl
theorem bl_nil_right (a : List UInt8) : Op.bytesLess a [] = false := by cases a <;> rfl
theorem bl_cons (x y : UInt8) (a b : List UInt8) : Op.bytesLess (x :: a) (y :: b) = true ↔ x.toNat < y.toNat ∨ (x.toNat = y.toNat ∧ Op.bytesLess a b = true) := by
  simp only [Op.bytesLess]
  rcases Nat.lt_trichotomy x.toNat y.toNat with h | h | h
  · have h1 : x < y := (u8lt x y).2 h
    simp [h1, h]
  · have h1 : x = y := UInt8.toNat_inj.1 h
    subst h1
    have h2 : ¬ x < x := fun h' => by have := (u8lt _ _).1 h'; omega
    simp [h2]
  · have h2 : ¬ x < y := fun h' => by have := (u8lt _ _).1 h'; omega
    have h3 : ¬ x = y := fun h' => by subst h'; omega
    simp [h2, h3]
    omega
theorem bl_asymm : ∀ a b : List UInt8, Op.bytesLess a b = true → Op.bytesLess b a = false := by
  intro a
  induction a with
  | nil => intro b _; exact bl_nil_right b
  | cons x a ih =>
    intro b h
    cases b with
    | nil => rw [bl_nil_right] at h; cases h
    | cons y b =>
      rw [bl_cons] at h
      rw [Bool.eq_false_iff]
      intro h2
      rw [bl_cons] at h2
      rcases h with h | ⟨h, h'⟩ <;> rcases h2 with h3 | ⟨h3, h3'⟩
      · omega
      · omega
      · omega
      · rw [ih b h'] at h3'
        cases h3'
theorem bl_false_cons (x y : UInt8) (a b : List UInt8) : Op.bytesLess (x :: a) (y :: b) = false ↔ y.toNat < x.toNat ∨ (x.toNat = y.toNat ∧ Op.bytesLess a b = false) := by
  rw [← Bool.not_eq_true, bl_cons, ← Bool.not_eq_true]
  constructor
  · intro h
    by_cases h1 : x.toNat < y.toNat
    · exact absurd (.inl h1) h
    · by_cases h2 : x.toNat = y.toNat
      · exact .inr ⟨h2, fun h3 => h (.inr ⟨h2, h3⟩)⟩
      · left; omega
  · rintro (h | ⟨h1, h2⟩) (h3 | ⟨h3, h4⟩)
    · omega
    · omega
    · omega
    · exact h2 h4
theorem bl_trans : ∀ a b c : List UInt8, Op.bytesLess b a = false → Op.bytesLess c b = false → Op.bytesLess c a = false := by
  intro a
  induction a with
  | nil => intro b c _ _; exact bl_nil_right c
  | cons x a ih =>
    intro b c h1 h2
    cases b with
    | nil => rw [bl_nil_left] at h1; cases h1
    | cons y b =>
      cases c with
      | nil => rw [bl_nil_left] at h2; cases h2
      | cons z c =>
        rw [bl_false_cons] at h1 h2 ⊢
        rcases h1 with h1 | ⟨h1, h1'⟩ <;> rcases h2 with h2 | ⟨h2, h2'⟩
        · left; omega
        · left; omega
        · left; omega
        · exact .inr ⟨by omega, ih b c h1' h2'⟩
theorem cmpL_le (a b : List UInt8) : cmpL a b ≤ 0 ↔ Op.bytesLess b a = false := by
  unfold cmpL
  by_cases h : Op.bytesLess a b = true
  · rw [if_pos h]
    exact ⟨fun _ => bl_asymm a b h, fun _ => by decide⟩
  · rw [if_neg h]
    by_cases h2 : Op.bytesLess b a = true
    · rw [if_pos h2, h2]
      exact ⟨fun h => absurd h (by decide), fun h => by cases h⟩
    · rw [if_neg h2]
      exact ⟨fun _ => by simpa using h2, fun _ => by decide⟩
theorem leR_iff (x y : S23) : leR x y = true ↔ x.f0 < y.f0 ∨ (x.f0 = y.f0 ∧ Op.bytesLess y.f1.toList x.f1.toList = false) := by
  unfold leR cmpR
  rw [decide_eq_true_iff]
  by_cases h : x.f0 < y.f0
  · rw [if_pos h]
    exact ⟨fun _ => .inl h, fun _ => by decide⟩
  · rw [if_neg h]
    by_cases h2 : x.f0 > y.f0
    · rw [if_pos h2]
      exact ⟨fun h => absurd h (by decide), fun h => by omega⟩
    · rw [if_neg h2, cmpL_le]
      exact ⟨fun h3 => .inr ⟨by omega, h3⟩, fun h3 => h3.elim (fun h4 => absurd h4 h) And.right⟩
theorem ordR : St.Order leR where
  total := by
    intro x y
    rw [leR_iff, leR_iff]
    by_cases h : x.f0 < y.f0
    · exact .inl (.inl h)
    · by_cases h2 : y.f0 < x.f0
      · exact .inr (.inl h2)
      · have e : x.f0 = y.f0 := by omega
        rcases hb : Op.bytesLess y.f1.toList x.f1.toList with _ | _
        · exact .inl (.inr ⟨e, rfl⟩)
        · exact .inr (.inr ⟨e.symm, bl_asymm _ _ hb⟩)
  trans := by
    intro x y z h1 h2
    rw [leR_iff] at h1 h2 ⊢
    rcases h1 with h1 | ⟨h1, h1'⟩ <;> rcases h2 with h2 | ⟨h2, h2'⟩
    · left; omega
    · left; omega
    · left; omega
    · exact .inr ⟨by omega, bl_trans _ _ _ h1' h2'⟩
end Go.Proofs.Ytljahmnilmjlpaa.P
