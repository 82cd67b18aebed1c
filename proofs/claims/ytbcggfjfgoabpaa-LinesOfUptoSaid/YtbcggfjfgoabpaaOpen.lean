/- What comes in as data is read as a Lean value of its kind, whatever the kind: numbers, bools, strings, structs, slices of these. -/
import Derived.Test.YtbcggfjfgoabpaaWWords
import Derived.Test.YtbcggfjfgoabpaaRows
import Derived.Deep.Slices
import Derived.SizedLaws
import Derived.ProofKit
set_option linter.unusedVariables false
namespace Go.Proofs.Ytbcggfjfgoabpaa.OpenWords
open Go.Deep Go.ChangeShapes Go.WideShapes Go.Proofs.YtbcggfjfgoabpaaW.PrintWords

/-- What a value of type t reads as: 'ok' is what is known of it, 'bk' what it weighs at least. -/
structure Opens (P : Program) (t : TypeId) {α : Type} (d : Kd α) (ok : α → Prop) (bk : α → Nat) : Prop where
  sz : P.cellsOf t = d.sz
  get : ∀ {H : Type} (enc : TypeId × Value → H) (w : World) (held : Bool) (fuel : Nat) (cs : List Value) (x : DataW H × List MemPlace),
    DataW.trod enc P w 0 (fun _ => true) held fuel t cs = some x → (∀ n ∈ x.1.weights P t, n ≤ reachBytes) →
    ∃ a : α, d.K w a cs ∧ ok a ∧ bk a ≤ Rows.uptoBulk x.1

theorem opens_int {P : Program} {t : TypeId} {k : IntKind} (h : P.underlying t = some (.int k)) (hs : P.cellsOf t = 1) :
    Opens P t (Kd.int k) (fun a => (Lit.int k a).wf = true) (fun _ => 1) where
  sz := hs
  get := by
    intro H enc w held fuel cs x hx _
    obtain ⟨n, rfl, rfl, hw⟩ := DataW.trod_int h hx
    exact ⟨n, rfl, hw, Nat.le_refl _⟩

theorem opens_bool {P : Program} {t : TypeId} (h : P.underlying t = some .bool) (hs : P.cellsOf t = 1) :
    Opens P t Kd.bool (fun _ => True) (fun _ => 1) where
  sz := hs
  get := by
    intro H enc w held fuel cs x hx _
    obtain ⟨n, rfl, rfl⟩ := DataW.trod_bool h hx
    exact ⟨n, rfl, trivial, Nat.le_refl _⟩

theorem opens_string {P : Program} {t : TypeId} (h : P.underlying t = some .string) (hs : P.cellsOf t = 1) :
    Opens P t Kd.string (fun a => a.size ≤ 140737488351232) (fun a => a.size + 1) where
  sz := hs
  get := by
    intro H enc w held fuel cs x hx hw
    obtain ⟨s, rfl, rfl, hl⟩ := DataW.trod_string h hx
    refine ⟨s, rfl, ?_, ?_⟩
    · have := hw s.data.toList.length (by simp [DataW.weights])
      simpa [reachBytes] using this
    · show s.size + 1 ≤ s.data.toList.length + 1
      rw [Array.length_toList]
      exact Nat.le_refl _

/-- Some fields of a struct, from cell 'off' on. -/
structure OpensF (P : Program) (fs : List Field) (off : Nat) {α : Type} (d : Kd α) (ok : α → Prop) (bk : α → Nat) : Prop where
  get : ∀ {H : Type} (enc : TypeId × Value → H) (w : World) (held : Bool) (fuel : Nat) (cs : List Value) (xs : List (DataW H × List MemPlace)),
    cs.length = off + d.sz →
    (fs.mapM fun f => DataW.trod enc P w 0 (fun _ => true) held fuel f.type ((cs.drop f.offset).take (P.cellsOf f.type))) = some xs →
    (∀ n ∈ DataW.weightsEach P (fs.map (·.type)) (xs.map (·.1)), n ≤ reachBytes) →
    ∃ a : α, d.K w a (cs.drop off) ∧ ok a ∧ bk a ≤ Rows.uptoBulkAll (xs.map (·.1))

theorem opensF_one {P : Program} {f : Field} {α : Type} {d : Kd α} {ok : α → Prop} {bk : α → Nat} (h : Opens P f.type d ok bk) : OpensF P [f] f.offset d ok bk where
  get := by
    intro H enc w held fuel cs xs hl hx hw
    rw [List.mapM_cons] at hx
    cases h1 : DataW.trod enc P w 0 (fun _ => true) held fuel f.type ((cs.drop f.offset).take (P.cellsOf f.type)) with
    | none => rw [h1] at hx; simp at hx
    | some x =>
      rw [h1] at hx
      have hx' : some [x] = some xs := hx
      obtain rfl := Option.some.inj hx'
      rw [List.take_of_length_le (by rw [List.length_drop, h.sz]; omega)] at h1
      obtain ⟨a, hK, ho, hb⟩ := h.get enc w held fuel _ x h1 (fun n hn => hw n (by simpa [DataW.weightsEach] using hn))
      exact ⟨a, hK, ho, by simpa [Rows.uptoBulkAll] using hb⟩

theorem opensF_cons {P : Program} {f : Field} {fs : List Field} {off : Nat} {α β : Type} {d : Kd α} {ok : α → Prop} {bk : α → Nat} {d' : Kd β} {ok' : β → Prop} {bk' : β → Nat}
    (h : Opens P f.type d ok bk) (ho : off = f.offset + d.sz) (h' : OpensF P fs off d' ok' bk') :
    OpensF P (f :: fs) f.offset (Kd.pair d d') (fun a => ok a.1 ∧ ok' a.2) (fun a => bk a.1 + bk' a.2) where
  get := by
    intro H enc w held fuel cs xs hl hx hw
    have hl' : cs.length = f.offset + (d.sz + d'.sz) := hl
    rw [List.mapM_cons] at hx
    cases h1 : DataW.trod enc P w 0 (fun _ => true) held fuel f.type ((cs.drop f.offset).take (P.cellsOf f.type)) with
    | none => rw [h1] at hx; simp at hx
    | some x =>
      rw [h1] at hx
      cases h2 : fs.mapM fun f => DataW.trod enc P w 0 (fun _ => true) held fuel f.type ((cs.drop f.offset).take (P.cellsOf f.type)) with
      | none => rw [h2] at hx; simp at hx
      | some ys =>
        rw [h2] at hx
        have hx' : some (x :: ys) = some xs := hx
        obtain rfl := Option.some.inj hx'
        obtain ⟨a, hK, hok, hb⟩ := h.get enc w held fuel _ x h1 (fun n hn => hw n (by simp only [List.map_cons, DataW.weightsEach, List.mem_append]; exact .inl hn))
        obtain ⟨a', hK', hok', hb'⟩ := h'.get enc w held fuel cs ys (by rw [hl', ho]; omega) h2 (fun n hn => hw n (by simp only [List.map_cons, DataW.weightsEach, List.mem_append]; exact .inr hn))
        refine ⟨(a, a'), ⟨_, _, ?_, hK, hK'⟩, ⟨hok, hok'⟩, ?_⟩
        · rw [h.sz, ho, ← List.drop_drop]
          exact (List.take_append_drop _ _).symm
        · simp only [List.map_cons, Rows.uptoBulkAll]
          omega

theorem opens_struct {P : Program} {t : TypeId} {fs : Array Field} {α β : Type} {d : Kd α} {ok : α → Prop} {bk : α → Nat} (g : β → α) (m : α → β) (hg : ∀ a, g (m a) = a)
    (hu : P.underlying t = some (.struct fs)) (hs : P.cellsOf t = d.sz) (h : OpensF P fs.toList 0 d ok bk) :
    Opens P t (Kd.iso d g) (fun b => ok (g b)) (fun b => bk (g b) + 1) where
  sz := hs
  get := by
    intro H enc w held fuel cs x hx hw
    cases fuel with
    | zero => simp [DataW.trod] at hx
    | succ fuel =>
      unfold DataW.trod at hx
      rw [hu] at hx
      simp only at hx
      split at hx
      · rename_i hl
        obtain ⟨xs, hxs, rfl⟩ := Option.map_eq_some_iff.1 hx
        obtain ⟨a, hK, hok, hb⟩ := h.get enc w held fuel cs xs (by rw [hl, hs, Nat.zero_add]) hxs (fun n hn => hw n (by
          simp only [DataW.weights, hu]
          exact hn))
        refine ⟨m a, ?_, ?_, ?_⟩
        · show d.K w (g (m a)) cs
          rw [hg]
          simpa using hK
        · show ok (g (m a))
          rw [hg]; exact hok
        · show bk (g (m a)) + 1 ≤ _
          rw [hg]
          simp only [Rows.uptoBulk]
          omega
      · simp at hx

theorem bulkAll_sum {H : Type} (l : List (DataW H)) : Rows.uptoBulkAll l = (l.map Rows.uptoBulk).sum := by
  induction l with
  | nil => rfl
  | cons x l ih => simp [Rows.uptoBulkAll, ih]

theorem weightsAll_mem {H : Type} {P : Program} {e : TypeId} {l : List (DataW H)} {d : DataW H} (hd : d ∈ l) {n : Nat} (hn : n ∈ d.weights P e) : n ∈ DataW.weightsAll P e l := by
  induction l with
  | nil => cases hd
  | cons y l ih =>
    simp only [DataW.weightsAll, List.mem_append]
    rcases List.mem_cons.1 hd with rfl | hd
    · exact .inl hn
    · exact .inr (ih hd)

theorem map_sum_le {α : Type} {f g : α → Nat} (l : List α) (h : ∀ a ∈ l, f a ≤ g a) : (l.map f).sum ≤ (l.map g).sum := by
  induction l with
  | nil => exact Nat.le_refl _
  | cons x l ih =>
    have h1 := h x (by simp)
    have h2 := ih (fun a ha => h a (by simp [ha]))
    simp only [List.map_cons, List.sum_cons]
    omega

theorem cells_len {w : World} {base : Nat} {a : Addr} {n : Nat} {cs : List Value} (h : w.cells? base a n = some cs) : cs.length = n ∧ ∀ i u, cs[i]? = some u → w.cell? (a.add i) = some u := by
  obtain ⟨_, h1, h2⟩ := World.cells?_some h
  refine ⟨h1, fun i u hu => ?_⟩
  obtain ⟨hi, rfl⟩ := List.getElem?_eq_some_iff.1 hu
  have := h2 i (by omega)
  rw [this]
  simp [List.getElem?_eq_getElem hi]

theorem opens_slice {P : Program} {t e : TypeId} {α : Type} [Inhabited α] {d : Kd α} {ok : α → Prop} {bk : α → Nat} (B : Nat)
    (hu : P.underlying t = some (.slice e)) (hs : P.cellsOf t = 1) (hB : P.bytesOf e = B) (h : Opens P e d ok bk) :
    Opens P t (Kd.slice e d) (fun l => l.length ≤ maxLen ∧ l.length * B ≤ 140737488351232 ∧ ∀ x ∈ l, ok x) (fun l => (l.map bk).sum + 1) where
  sz := hs
  get := by
    intro H enc w held fuel cs x hx hw
    rcases open_slice hu hx with ⟨rfl, rfl⟩ | ⟨a, len, cap, m, n, D, Pl, rfl, _, hl, hm, hmm, rfl, hel⟩
    · exact ⟨[], ⟨none, 0, rfl, Nat.le_refl _, rfl, by simp, by simp⟩, ⟨by simp, by simp, by simp⟩, by simp [Rows.uptoBulk]⟩
    · have hmc : m = cap := by simpa using hmm
      subst hmc
      have hw1 : (((List.range len).map D).length + ((List.range (m - len)).map fun j => D (len + j)).length) * P.bytesOf e ≤ reachBytes := hw _ (by simp [DataW.weights, hu])
      have hw2 : ∀ i, i < len → ∀ k ∈ (D i).weights P e, k ≤ reachBytes := fun i hi k hk => hw k (by
        simp only [DataW.weights, hu, List.mem_cons, List.mem_append]
        exact .inr (.inl (weightsAll_mem (List.mem_map.2 ⟨i, List.mem_range.2 hi, rfl⟩) hk)))
      have each : ∀ i, i < len → ∃ y : α, (∃ cs', w.cells? 0 (a.add (i * P.cellsOf e)) (P.cellsOf e) = some cs' ∧ d.K w y cs') ∧ ok y ∧ bk y ≤ Rows.uptoBulk (D i) := by
        intro i hi
        obtain ⟨cs', hc, ht⟩ := hel i (by omega)
        obtain ⟨y, hK, ho, hb⟩ := h.get enc w held n cs' _ ht (hw2 i hi)
        exact ⟨y, ⟨cs', hc, hK⟩, ho, hb⟩
      obtain ⟨f, hf⟩ := choose_lt each
      refine ⟨(List.range len).map f, ⟨some a, m, by simp, by simpa using hl, ?_⟩, ⟨?_, ?_, ?_⟩, ?_⟩
      · refine ⟨rfl, ?_, fun hn => ⟨a, rfl, fun j p hj => ?_⟩⟩
        · simp only [List.length_map, List.length_range]
          unfold maxLen at hm
          omega
        · obtain ⟨hjl, hp⟩ := List.getElem?_eq_some_iff.1 hj
          simp at hjl
          have hp' : f j = p := by simpa using hp
          obtain ⟨⟨cs', hc, hK⟩, _⟩ := hf j hjl
          obtain ⟨hcl, hcc⟩ := cells_len hc
          refine ⟨cs', by rw [hcl, h.sz], hp' ▸ hK, fun i u hu' => ?_⟩
          have := hcc i u hu'
          rw [Go.Deep.add_add, h.sz] at this
          exact this
      · simp; omega
      · simp only [List.length_map, List.length_range] at hw1 ⊢
        rw [hB] at hw1
        have : len * B ≤ (len + (m - len)) * B := Nat.mul_le_mul_right _ (by omega)
        unfold reachBytes at hw1
        omega
      · intro x hx
        obtain ⟨i, hi, rfl⟩ := List.mem_map.1 hx
        exact (hf i (List.mem_range.1 hi)).2.1
      · simp only [Rows.uptoBulk, bulkAll_sum, List.map_map]
        have := map_sum_le (f := bk ∘ f) (g := Rows.uptoBulk ∘ D) (List.range len) (fun i hi => (hf i (List.mem_range.1 hi)).2.2)
        omega

/-- An argument of a kind of one cell, or a struct: its value, and what is known of it. -/
theorem Opens.arg {P : Program} {t : TypeId} {α : Type} {d : Kd α} {ok : α → Prop} {bk : α → Nat} (h : Opens P t d ok bk) {H : Type} {enc : TypeId × Value → H} {W : World} {held : Bool} {v : Value} {x : DataW H} {ps : List MemPlace}
    (ht : DataW.Trod enc P W 0 (fun _ => true) held t v x ps) (hw : ∀ n ∈ x.weights P t, n ≤ reachBytes) : ∃ a : α, d.K W a v.cells.toList ∧ ok a ∧ bk a ≤ Rows.uptoBulk x := by
  obtain ⟨fuel, hf⟩ := ht
  exact h.get enc W held fuel _ (x, ps) hf hw
theorem each_of {H : Type} {P : Program} {ts : List TypeId} {ds : List (DataW H)} (h : (DataW.weightsEach P ts ds).all (· ≤ reachBytes) = true) {j : Nat} {t : TypeId} {d : DataW H} (ht : ts[j]? = some t) (hd : ds[j]? = some d) : ∀ n ∈ d.weights P t, n ≤ reachBytes :=
  fun n hn => by simpa using List.all_eq_true.1 h n (DataW.weights_mem_each ht hd n hn)

theorem int_of_K {k k' : IntKind} {w : World} {n x : Int} (h : (Kd.int k).K w x (Value.int k' n).cells.toList) : n = x := by
  have h' : [Value.int k' n] = [Value.int k x] := h
  simpa using (List.cons.inj h').1 |> fun e => (Value.int.inj e).2
theorem string_of_K {w : World} {s x : ByteArray} (h : Kd.string.K w x (Value.string s).cells.toList) : s = x := by
  have h' : [Value.string s] = [Value.string x] := h
  exact Value.string.inj (List.cons.inj h').1
theorem bool_of_K {w : World} {v : Value} {x : Bool} (hv : ∃ b, v = .bool b) (h : Kd.bool.K w x v.cells.toList) : v = .bool x := by
  obtain ⟨b, rfl⟩ := hv
  have h' : [Value.bool b] = [Value.bool x] := h
  exact (List.cons.inj h').1
theorem slice_of_K {α : Type} {e : Nat} {d : Kd α} {w : World} {a : Option Addr} {len cap : Nat} {xs : List α} (h : (Kd.slice e d).K w xs (Value.slice a len cap).cells.toList) : len = xs.length ∧ xs.length ≤ cap ∧ Kd.C d w a xs.length xs := by
  obtain ⟨A, c, he, hl, hr⟩ := h
  have h' : [Value.slice a len cap] = [Value.slice A xs.length c] := he
  obtain ⟨rfl, rfl, rfl⟩ := Value.slice.inj (List.cons.inj h').1
  exact ⟨rfl, hl, hr⟩
theorem agg_of_K {cs : Array Value} {l : List Value} (h : (Value.agg cs).cells.toList = l) : cs = l.toArray := by
  have h' : cs.toList = l := h
  rw [← h']
end Go.Proofs.Ytbcggfjfgoabpaa.OpenWords
