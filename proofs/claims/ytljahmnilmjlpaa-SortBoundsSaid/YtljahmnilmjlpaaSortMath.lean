/- Stable sorting, as plain laws over lists: there is one stable sort, and merging makes it. -/
import Derived.Test.YtljahmnilmjlpaaCmp
namespace Go.Proofs.Ytljahmnilmjlpaa.P
set_option linter.unusedVariables false
namespace St
variable {α : Type}
/-- the first list's first, where they are alike -/
def merge (le : α → α → Bool) : List α → List α → List α
  | [], b => b
  | a, [] => a
  | x :: a, y :: b => if le x y then x :: merge le a (y :: b) else y :: merge le (x :: a) b
termination_by a b => a.length + b.length
theorem merge_nil_left (le : α → α → Bool) (b : List α) : merge le [] b = b := by unfold merge; rfl
theorem merge_nil_right (le : α → α → Bool) (a : List α) : merge le a [] = a := by cases a <;> (unfold merge; rfl)
theorem merge_cons (le : α → α → Bool) (x y : α) (a b : List α) : merge le (x :: a) (y :: b) = if le x y then x :: merge le a (y :: b) else y :: merge le (x :: a) b := by
  rw [merge]
theorem merge_length (le : α → α → Bool) (n : Nat) : ∀ a b : List α, a.length + b.length ≤ n → (merge le a b).length = a.length + b.length := by
  induction n with
  | zero => intro a b h; obtain rfl := List.length_eq_zero_iff.1 (show a.length = 0 by omega); rw [merge_nil_left]; simp
  | succ n ih =>
    intro a b h
    cases a with
    | nil => rw [merge_nil_left]; simp
    | cons x a =>
      cases b with
      | nil => rw [merge_nil_right]; simp
      | cons y b =>
        rw [merge_cons]
        simp only [List.length_cons] at h ⊢
        split
        · rw [List.length_cons, ih _ _ (by simp only [List.length_cons]; omega), List.length_cons]; omega
        · rw [List.length_cons, ih _ _ (by simp only [List.length_cons]; omega), List.length_cons]; omega
structure Order (le : α → α → Bool) : Prop where
  total : ∀ x y, le x y = true ∨ le y x = true
  trans : ∀ x y z, le x y = true → le y z = true → le x z = true
variable {le : α → α → Bool}
theorem Order.refl (h : Order le) (x : α) : le x x = true := (h.total x x).elim id id
/-- each before all that follow -/
def Rises (le : α → α → Bool) : List α → Prop
  | [] => True
  | x :: l => (∀ y ∈ l, le x y = true) ∧ Rises le l
/-- those alike c -/
def cls (le : α → α → Bool) (c : α) (l : List α) : List α := l.filter fun x => le c x && le x c
theorem cls_nil (c : α) : cls le c [] = [] := rfl
theorem cls_cons (c x : α) (l : List α) : cls le c (x :: l) = if le c x && le x c then x :: cls le c l else cls le c l := by unfold cls; rw [List.filter_cons]
theorem cls_append (c : α) (a b : List α) : cls le c (a ++ b) = cls le c a ++ cls le c b := by unfold cls; rw [List.filter_append]
theorem mem_merge (n : Nat) : ∀ a b : List α, a.length + b.length ≤ n → ∀ z, z ∈ merge le a b → z ∈ a ∨ z ∈ b := by
  induction n with
  | zero => intro a b h z hz; obtain rfl := List.length_eq_zero_iff.1 (show a.length = 0 by omega); rw [merge_nil_left] at hz; exact .inr hz
  | succ n ih =>
    intro a b h z hz
    cases a with
    | nil => rw [merge_nil_left] at hz; exact .inr hz
    | cons x a =>
      cases b with
      | nil => rw [merge_nil_right] at hz; exact .inl hz
      | cons y b =>
        rw [merge_cons] at hz
        simp only [List.length_cons] at h
        split at hz
        · rcases List.mem_cons.1 hz with rfl | hz
          · exact .inl List.mem_cons_self
          · rcases ih _ _ (by simp only [List.length_cons]; omega) z hz with h | h
            · exact .inl (List.mem_cons_of_mem _ h)
            · exact .inr h
        · rcases List.mem_cons.1 hz with rfl | hz
          · exact .inr List.mem_cons_self
          · rcases ih _ _ (by simp only [List.length_cons]; omega) z hz with h | h
            · exact .inl h
            · exact .inr (List.mem_cons_of_mem _ h)
theorem merge_rises (o : Order le) (n : Nat) : ∀ a b : List α, a.length + b.length ≤ n → Rises le a → Rises le b → Rises le (merge le a b) := by
  induction n with
  | zero => intro a b h ha hb; obtain rfl := List.length_eq_zero_iff.1 (show a.length = 0 by omega); rw [merge_nil_left]; exact hb
  | succ n ih =>
    intro a b h ha hb
    cases a with
    | nil => rw [merge_nil_left]; exact hb
    | cons x a =>
      cases b with
      | nil => rw [merge_nil_right]; exact ha
      | cons y b =>
        rw [merge_cons]
        simp only [List.length_cons] at h
        split
        · rename_i hxy
          refine ⟨fun z hz => ?_, ih _ _ (by simp only [List.length_cons]; omega) ha.2 hb⟩
          rcases mem_merge _ _ _ (Nat.le_refl _) z hz with hz | hz
          · exact ha.1 z hz
          · rcases List.mem_cons.1 hz with rfl | hz
            · exact hxy
            · exact o.trans _ _ _ hxy (hb.1 z hz)
        · rename_i hxy
          have hyx : le y x = true := (o.total x y).resolve_left hxy
          refine ⟨fun z hz => ?_, ih _ _ (by simp only [List.length_cons]; omega) ha hb.2⟩
          rcases mem_merge _ _ _ (Nat.le_refl _) z hz with hz | hz
          · rcases List.mem_cons.1 hz with rfl | hz
            · exact hyx
            · exact o.trans _ _ _ hyx (ha.1 z hz)
          · exact hb.1 z hz
theorem merge_cls (o : Order le) (c : α) (n : Nat) : ∀ a b : List α, a.length + b.length ≤ n → Rises le a → cls le c (merge le a b) = cls le c a ++ cls le c b := by
  induction n with
  | zero => intro a b h ha; obtain rfl := List.length_eq_zero_iff.1 (show a.length = 0 by omega); rw [merge_nil_left]; rfl
  | succ n ih =>
    intro a b h ha
    cases a with
    | nil => rw [merge_nil_left]; rfl
    | cons x a =>
      cases b with
      | nil => rw [merge_nil_right, cls_nil, List.append_nil]
      | cons y b =>
        rw [merge_cons]
        simp only [List.length_cons] at h
        split
        · rw [cls_cons, ih _ _ (by simp only [List.length_cons]; omega) ha.2, cls_cons c x]
          split <;> rfl
        · rename_i hxy
          rw [cls_cons, ih _ _ (by simp only [List.length_cons]; omega) ha, cls_cons c y b]
          by_cases hc : (le c y && le y c) = true
          · rw [if_pos hc, if_pos hc]
            have hcy := (Bool.and_eq_true_iff.1 hc)
            have : cls le c (x :: a) = [] := by
              unfold cls
              rw [List.filter_eq_nil_iff]
              intro z hz hzc
              have hz2 := (Bool.and_eq_true_iff.1 hzc)
              have hxz : le x z = true := by
                rcases List.mem_cons.1 hz with rfl | hz
                · exact o.refl _
                · exact ha.1 z hz
              exact hxy (o.trans _ _ _ hxz (o.trans _ _ _ hz2.2 hcy.1))
            rw [this]
            rfl
          · rw [if_neg hc, if_neg hc]
theorem cls_mem {c z : α} {l : List α} (h : z ∈ cls le c l) : z ∈ l ∧ le c z = true ∧ le z c = true := by
  unfold cls at h
  have := List.mem_filter.1 h
  exact ⟨this.1, Bool.and_eq_true_iff.1 this.2⟩
/-- There is one stable sort. -/
theorem one (o : Order le) : ∀ a b : List α, Rises le a → Rises le b → (∀ c, cls le c a = cls le c b) → a = b := by
  intro a
  induction a with
  | nil =>
    intro b _ _ h
    cases b with
    | nil => rfl
    | cons y b =>
      have := h y
      rw [cls_nil, cls_cons, if_pos (by rw [o.refl y]; rfl)] at this
      cases this
  | cons x a ih =>
    intro b ha hb h
    cases b with
    | nil =>
      have := h x
      rw [cls_nil, cls_cons, if_pos (by rw [o.refl x]; rfl)] at this
      cases this
    | cons y b =>
      have hx := h x
      rw [cls_cons x x a, if_pos (by rw [o.refl x]; rfl)] at hx
      have hy := h y
      rw [cls_cons y y b, if_pos (by rw [o.refl y]; rfl)] at hy
      have m1 : x ∈ y :: b := (cls_mem (c := x) (by rw [← hx]; exact List.mem_cons_self)).1
      have m2 : y ∈ x :: a := (cls_mem (c := y) (by rw [hy]; exact List.mem_cons_self)).1
      have l1 : le y x = true := by
        rcases List.mem_cons.1 m1 with e | m
        · rw [e]; exact o.refl _
        · exact hb.1 x m
      have l2 : le x y = true := by
        rcases List.mem_cons.1 m2 with e | m
        · rw [e]; exact o.refl _
        · exact ha.1 y m
      rw [cls_cons x y b, if_pos (by rw [l1, l2]; rfl)] at hx
      have e := (List.cons.inj hx).1
      subst e
      congr 1
      refine ih b ha.2 hb.2 (fun c => ?_)
      have hc := h c
      rw [cls_cons, cls_cons] at hc
      split at hc
      · exact (List.cons.inj hc).2
      · exact hc
/-- each goes to its place behind all that are not greater -/
def isort (le : α → α → Bool) (l : List α) : List α := l.foldl (fun a x => merge le a [x]) []
theorem rises_one (x : α) : Rises le [x] := ⟨fun _ h => (by cases h), trivial⟩
theorem isort_from (o : Order le) (l : List α) : ∀ a, Rises le a → Rises le (l.foldl (fun a x => merge le a [x]) a) ∧ ∀ c, cls le c (l.foldl (fun a x => merge le a [x]) a) = cls le c a ++ cls le c l := by
  induction l with
  | nil => intro a h; exact ⟨h, fun c => by rw [cls_nil, List.append_nil]; rfl⟩
  | cons x l ih =>
    intro a h
    have h1 := merge_rises o _ a [x] (Nat.le_refl _) h (rises_one x)
    obtain ⟨i1, i2⟩ := ih _ h1
    refine ⟨i1, fun c => ?_⟩
    rw [List.foldl_cons, i2, merge_cls o c _ a [x] (Nat.le_refl _) h, List.append_assoc, ← cls_append]
    rfl
theorem isort_rises (o : Order le) (l : List α) : Rises le (isort le l) := (isort_from o l [] trivial).1
theorem isort_cls (o : Order le) (l : List α) (c : α) : cls le c (isort le l) = cls le c l := by
  have := (isort_from o l [] trivial).2 c
  rw [cls_nil, List.nil_append] at this
  exact this
theorem merge_isort (o : Order le) (a b : List α) : merge le (isort le a) (isort le b) = isort le (a ++ b) := by
  refine one o _ _ (merge_rises o _ _ _ (Nat.le_refl _) (isort_rises o a) (isort_rises o b)) (isort_rises o _) (fun c => ?_)
  rw [merge_cls o c _ _ _ (Nat.le_refl _) (isort_rises o a), isort_cls o, isort_cls o, isort_cls o, cls_append]
theorem isort_isort (o : Order le) (a : List α) : isort le (isort le a) = isort le a :=
  one o _ _ (isort_rises o _) (isort_rises o _) (fun c => by rw [isort_cls o])
theorem isort_length (l : List α) : (isort le l).length = l.length := by
  have : ∀ a : List α, (l.foldl (fun a x => merge le a [x]) a).length = a.length + l.length := by
    induction l with
    | nil => intro a; rfl
    | cons x l ih => intro a; rw [List.foldl_cons, ih, merge_length le _ _ _ (Nat.le_refl _)]; simp; omega
  have h := this []
  rw [List.length_nil, Nat.zero_add] at h
  exact h
theorem isort_nil : isort le [] = [] := rfl
theorem isort_one (x : α) : isort le [x] = [x] := by unfold isort; rw [List.foldl_cons, List.foldl_nil, merge_nil_left]
/-- One behind all that are not greater, ahead of all that are. -/
theorem merge_place (x : α) : ∀ (p q : List α), (∀ y ∈ p, le y x = true) → (∀ y ∈ q, le y x = false) → merge le (p ++ q) [x] = p ++ x :: q := by
  intro p
  induction p with
  | nil =>
    intro q _ hq
    cases q with
    | nil => rw [List.nil_append, merge_nil_left]; rfl
    | cons y q => rw [List.nil_append, merge_cons, if_neg (by rw [hq y List.mem_cons_self]; decide), merge_nil_right]; rfl
  | cons y p ih =>
    intro q hp hq
    rw [List.cons_append, merge_cons, if_pos (hp y List.mem_cons_self), ih q (fun z hz => hp z (List.mem_cons_of_mem _ hz)) hq]
    rfl
/-- the sorts of each w of them, one behind another -/
def runs (le : α → α → Bool) (w : Nat) (l : List α) : List α :=
  if h : w = 0 ∨ l.length ≤ w then isort le l else isort le (l.take w) ++ runs le w (l.drop w)
termination_by l.length
decreasing_by simp only [List.length_drop]; omega
end St
end Go.Proofs.Ytljahmnilmjlpaa.P
