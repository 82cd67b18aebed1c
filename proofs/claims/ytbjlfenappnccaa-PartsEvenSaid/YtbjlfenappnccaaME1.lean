/- Several texts laid together (wip/tools/merge2.py): Open, Str, P0, Opens, Pf19, HCmpQ, Cmp, Ord, HLess, HSortK, Math, HExtend, Pf23, Pf22, Pf43, Pf35, Pf24, RefSum, HHash, Pf20, HSearch, Pf18, Pf44, Pf36. -/
import Derived.Test.YtbjlfenappnccaaWWords
import Derived.Test.YtbjlfenappnccaaRows
import Derived.Deep.Slices
import Derived.SizedLaws
import Derived.ProofKit
import Derived.Laws.Strings
import Derived.Laws.Small
import Derived.Test.YtbjlfenappnccaaProg
import Derived.Below
import Derived.Deep.Draws
import Derived.Deep.AppendLies
import Derived.Maps.AppendAt
import Derived.OwnWalk
import Derived.Laws.BytesArg
import Derived.Laws.MakeOwn
import Derived.Laws.OwnMore
import Derived.Deep.OwnRows
import Derived.Tactics
import Derived.Lib.ConvBytes
import Derived.Laws.Slices
import Derived.WalkKit
import Derived.KernelRfl
import Derived.RowKit3
import Derived.Deep.LoopGhost
import Derived.Deep.QuietTactic
import Derived.BigQuiet
import Derived.WideLaws
import Derived.Deep.DeepCutAuto
import Derived.Deep.CutBlock
import Derived.Deep.RegionHeld3
import Derived.Laws.Rows
import Derived.Lib.AppendStr
import Derived.ArgAppend
import Derived.Laws.IdiomCopy
import Derived.OrdersHeld
import Derived.Laws.BitsLemmas
import Derived.RowKit
import Derived.Test.YtbjlfenappnccaaWLast
import Derived.Test.YtbjlfenappnccaaWTab
import Derived.Test.YtbjlfenappnccaaWFour
import Derived.Test.YtbjlfenappnccaaWQPut
import Derived.Test.YtbjlfenappnccaaWApart
import Derived.Test.YtbjlfenappnccaaWArr
import Derived.Test.YtbjlfenappnccaaWZeros
import Derived.Test.YtbjlfenappnccaaWFoot
import Derived.Test.YtbjlfenappnccaaWKept
import Derived.Test.YtbjlfenappnccaaWShare
import Derived.Test.YtbjlfenappnccaaWN
import Derived.Test.YtbjlfenappnccaaWFootNe
import Derived.Test.YtbjlfenappnccaaWAt
import Derived.Test.YtbjlfenappnccaaWEqStruct
import Derived.Test.YtbjlfenappnccaaWRepsOne
import Derived.Test.YtbjlfenappnccaaWInv
import Derived.Test.YtbjlfenappnccaaWInvWords
import Derived.Test.YtbjlfenappnccaaWGuard
import Derived.Test.YtbjlfenappnccaaWNEv
import Derived.Test.YtbjlfenappnccaaWMore
import Derived.Sort.LotA
import Derived.Shelf.GgSortFunc.Whole
import Derived.Shelf.GgSortFunc.Tiny
import Derived.Shelf.Lay
import Derived.Ground.GgsProg
import Derived.Lib.RowBridge
import Derived.Lib.SortBridge
import Derived.Laws.BitsAllLaws
import Derived.Outline
import Derived.Says
section
/- What comes in as data is read as a Lean value of its kind, whatever the kind: numbers, bools, strings, structs, slices of these. -/
set_option linter.unusedVariables false
namespace Go.Proofs.Ytbjlfenappnccaa.OpenWords
open Go.Deep Go.ChangeShapes Go.WideShapes Go.Proofs.YtbjlfenappnccaaW.PrintWords

/-- What a value of type t reads as: 'ok' is what is known of it, 'bk' what it weighs at least. -/
structure Opens (P : Program) (t : TypeId) {α : Type} (d : Kd α) (ok : α → Prop) (bk : α → Nat) : Prop where
  sz : P.cellsOf t = d.sz
  get : ∀ {H : Type} (enc : TypeId × Value → H) (w : World) (held : Bool) (fuel : Nat) (cs : List Value) (x : DataW H × List MemPlace),
    DataW.trod enc P w 0 (fun _ => true) held fuel t cs = some x → (∀ n ∈ x.1.weights P t, n ≤ reachBytes) →
    ∃ a : α, d.K w a cs ∧ ok a ∧ bk a ≤ Rows.uptoBulk x.1

theorem opens_int {P : Program} {t : TypeId} {k : IntKind} (h : P.underlying t = some (.int k)) (hs : P.cellsOf t = 1) :
    Opens P t (Kd.int k) (fun a => (Lit.int k a).wf = true) (fun _ => 1) where
  sz := hs
  get := by
    intro H enc w held fuel cs x hx _
    obtain ⟨n, rfl, rfl, hw⟩ := DataW.trod_int h hx
    exact ⟨n, rfl, hw, Nat.le_refl _⟩

theorem opens_bool {P : Program} {t : TypeId} (h : P.underlying t = some .bool) (hs : P.cellsOf t = 1) :
    Opens P t Kd.bool (fun _ => True) (fun _ => 1) where
  sz := hs
  get := by
    intro H enc w held fuel cs x hx _
    obtain ⟨n, rfl, rfl⟩ := DataW.trod_bool h hx
    exact ⟨n, rfl, trivial, Nat.le_refl _⟩

theorem opens_string {P : Program} {t : TypeId} (h : P.underlying t = some .string) (hs : P.cellsOf t = 1) :
    Opens P t Kd.string (fun a => a.size ≤ 140737488351232) (fun a => a.size + 1) where
  sz := hs
  get := by
    intro H enc w held fuel cs x hx hw
    obtain ⟨s, rfl, rfl, hl⟩ := DataW.trod_string h hx
    refine ⟨s, rfl, ?_, ?_⟩
    · have := hw s.data.toList.length (by simp [DataW.weights])
      simpa [reachBytes] using this
    · show s.size + 1 ≤ s.data.toList.length + 1
      rw [Array.length_toList]
      exact Nat.le_refl _

/-- Some fields of a struct, from cell 'off' on. -/
structure OpensF (P : Program) (fs : List Field) (off : Nat) {α : Type} (d : Kd α) (ok : α → Prop) (bk : α → Nat) : Prop where
  get : ∀ {H : Type} (enc : TypeId × Value → H) (w : World) (held : Bool) (fuel : Nat) (cs : List Value) (xs : List (DataW H × List MemPlace)),
    cs.length = off + d.sz →
    (fs.mapM fun f => DataW.trod enc P w 0 (fun _ => true) held fuel f.type ((cs.drop f.offset).take (P.cellsOf f.type))) = some xs →
    (∀ n ∈ DataW.weightsEach P (fs.map (·.type)) (xs.map (·.1)), n ≤ reachBytes) →
    ∃ a : α, d.K w a (cs.drop off) ∧ ok a ∧ bk a ≤ Rows.uptoBulkAll (xs.map (·.1))

theorem opensF_one {P : Program} {f : Field} {α : Type} {d : Kd α} {ok : α → Prop} {bk : α → Nat} (h : Opens P f.type d ok bk) : OpensF P [f] f.offset d ok bk where
  get := by
    intro H enc w held fuel cs xs hl hx hw
    rw [List.mapM_cons] at hx
    cases h1 : DataW.trod enc P w 0 (fun _ => true) held fuel f.type ((cs.drop f.offset).take (P.cellsOf f.type)) with
    | none => rw [h1] at hx; simp at hx
    | some x =>
      rw [h1] at hx
      have hx' : some [x] = some xs := hx
      obtain rfl := Option.some.inj hx'
      rw [List.take_of_length_le (by rw [List.length_drop, h.sz]; omega)] at h1
      obtain ⟨a, hK, ho, hb⟩ := h.get enc w held fuel _ x h1 (fun n hn => hw n (by simpa [DataW.weightsEach] using hn))
      exact ⟨a, hK, ho, by simpa [Rows.uptoBulkAll] using hb⟩

theorem opensF_cons {P : Program} {f : Field} {fs : List Field} {off : Nat} {α β : Type} {d : Kd α} {ok : α → Prop} {bk : α → Nat} {d' : Kd β} {ok' : β → Prop} {bk' : β → Nat}
    (h : Opens P f.type d ok bk) (ho : off = f.offset + d.sz) (h' : OpensF P fs off d' ok' bk') :
    OpensF P (f :: fs) f.offset (Kd.pair d d') (fun a => ok a.1 ∧ ok' a.2) (fun a => bk a.1 + bk' a.2) where
  get := by
    intro H enc w held fuel cs xs hl hx hw
    have hl' : cs.length = f.offset + (d.sz + d'.sz) := hl
    rw [List.mapM_cons] at hx
    cases h1 : DataW.trod enc P w 0 (fun _ => true) held fuel f.type ((cs.drop f.offset).take (P.cellsOf f.type)) with
    | none => rw [h1] at hx; simp at hx
    | some x =>
      rw [h1] at hx
      cases h2 : fs.mapM fun f => DataW.trod enc P w 0 (fun _ => true) held fuel f.type ((cs.drop f.offset).take (P.cellsOf f.type)) with
      | none => rw [h2] at hx; simp at hx
      | some ys =>
        rw [h2] at hx
        have hx' : some (x :: ys) = some xs := hx
        obtain rfl := Option.some.inj hx'
        obtain ⟨a, hK, hok, hb⟩ := h.get enc w held fuel _ x h1 (fun n hn => hw n (by simp only [List.map_cons, DataW.weightsEach, List.mem_append]; exact .inl hn))
        obtain ⟨a', hK', hok', hb'⟩ := h'.get enc w held fuel cs ys (by rw [hl', ho]; omega) h2 (fun n hn => hw n (by simp only [List.map_cons, DataW.weightsEach, List.mem_append]; exact .inr hn))
        refine ⟨(a, a'), ⟨_, _, ?_, hK, hK'⟩, ⟨hok, hok'⟩, ?_⟩
        · rw [h.sz, ho, ← List.drop_drop]
          exact (List.take_append_drop _ _).symm
        · simp only [List.map_cons, Rows.uptoBulkAll]
          omega

theorem opens_struct {P : Program} {t : TypeId} {fs : Array Field} {α β : Type} {d : Kd α} {ok : α → Prop} {bk : α → Nat} (g : β → α) (m : α → β) (hg : ∀ a, g (m a) = a)
    (hu : P.underlying t = some (.struct fs)) (hs : P.cellsOf t = d.sz) (h : OpensF P fs.toList 0 d ok bk) :
    Opens P t (Kd.iso d g) (fun b => ok (g b)) (fun b => bk (g b) + 1) where
  sz := hs
  get := by
    intro H enc w held fuel cs x hx hw
    cases fuel with
    | zero => simp [DataW.trod] at hx
    | succ fuel =>
      unfold DataW.trod at hx
      rw [hu] at hx
      simp only at hx
      split at hx
      · rename_i hl
        obtain ⟨xs, hxs, rfl⟩ := Option.map_eq_some_iff.1 hx
        obtain ⟨a, hK, hok, hb⟩ := h.get enc w held fuel cs xs (by rw [hl, hs, Nat.zero_add]) hxs (fun n hn => hw n (by
          simp only [DataW.weights, hu]
          exact hn))
        refine ⟨m a, ?_, ?_, ?_⟩
        · show d.K w (g (m a)) cs
          rw [hg]
          simpa using hK
        · show ok (g (m a))
          rw [hg]; exact hok
        · show bk (g (m a)) + 1 ≤ _
          rw [hg]
          simp only [Rows.uptoBulk]
          omega
      · simp at hx

theorem bulkAll_sum {H : Type} (l : List (DataW H)) : Rows.uptoBulkAll l = (l.map Rows.uptoBulk).sum := by
  induction l with
  | nil => rfl
  | cons x l ih => simp [Rows.uptoBulkAll, ih]

theorem weightsAll_mem {H : Type} {P : Program} {e : TypeId} {l : List (DataW H)} {d : DataW H} (hd : d ∈ l) {n : Nat} (hn : n ∈ d.weights P e) : n ∈ DataW.weightsAll P e l := by
  induction l with
  | nil => cases hd
  | cons y l ih =>
    simp only [DataW.weightsAll, List.mem_append]
    rcases List.mem_cons.1 hd with rfl | hd
    · exact .inl hn
    · exact .inr (ih hd)

theorem map_sum_le {α : Type} {f g : α → Nat} (l : List α) (h : ∀ a ∈ l, f a ≤ g a) : (l.map f).sum ≤ (l.map g).sum := by
  induction l with
  | nil => exact Nat.le_refl _
  | cons x l ih =>
    have h1 := h x (by simp)
    have h2 := ih (fun a ha => h a (by simp [ha]))
    simp only [List.map_cons, List.sum_cons]
    omega

theorem cells_len {w : World} {base : Nat} {a : Addr} {n : Nat} {cs : List Value} (h : w.cells? base a n = some cs) : cs.length = n ∧ ∀ i u, cs[i]? = some u → w.cell? (a.add i) = some u := by
  obtain ⟨_, h1, h2⟩ := World.cells?_some h
  refine ⟨h1, fun i u hu => ?_⟩
  obtain ⟨hi, rfl⟩ := List.getElem?_eq_some_iff.1 hu
  have := h2 i (by omega)
  rw [this]
  simp [List.getElem?_eq_getElem hi]

theorem opens_slice {P : Program} {t e : TypeId} {α : Type} [Inhabited α] {d : Kd α} {ok : α → Prop} {bk : α → Nat} (B : Nat)
    (hu : P.underlying t = some (.slice e)) (hs : P.cellsOf t = 1) (hB : P.bytesOf e = B) (h : Opens P e d ok bk) :
    Opens P t (Kd.slice e d) (fun l => l.length ≤ maxLen ∧ l.length * B ≤ 140737488351232 ∧ ∀ x ∈ l, ok x) (fun l => (l.map bk).sum + 1) where
  sz := hs
  get := by
    intro H enc w held fuel cs x hx hw
    rcases open_slice hu hx with ⟨rfl, rfl⟩ | ⟨a, len, cap, m, n, D, Pl, rfl, _, hl, hm, hmm, rfl, hel⟩
    · exact ⟨[], ⟨none, 0, rfl, Nat.le_refl _, rfl, by simp, by simp⟩, ⟨by simp, by simp, by simp⟩, by simp [Rows.uptoBulk]⟩
    · have hmc : m = cap := by simpa using hmm
      subst hmc
      have hw1 : (((List.range len).map D).length + ((List.range (m - len)).map fun j => D (len + j)).length) * P.bytesOf e ≤ reachBytes := hw _ (by simp [DataW.weights, hu])
      have hw2 : ∀ i, i < len → ∀ k ∈ (D i).weights P e, k ≤ reachBytes := fun i hi k hk => hw k (by
        simp only [DataW.weights, hu, List.mem_cons, List.mem_append]
        exact .inr (.inl (weightsAll_mem (List.mem_map.2 ⟨i, List.mem_range.2 hi, rfl⟩) hk)))
      have each : ∀ i, i < len → ∃ y : α, (∃ cs', w.cells? 0 (a.add (i * P.cellsOf e)) (P.cellsOf e) = some cs' ∧ d.K w y cs') ∧ ok y ∧ bk y ≤ Rows.uptoBulk (D i) := by
        intro i hi
        obtain ⟨cs', hc, ht⟩ := hel i (by omega)
        obtain ⟨y, hK, ho, hb⟩ := h.get enc w held n cs' _ ht (hw2 i hi)
        exact ⟨y, ⟨cs', hc, hK⟩, ho, hb⟩
      obtain ⟨f, hf⟩ := choose_lt each
      refine ⟨(List.range len).map f, ⟨some a, m, by simp, by simpa using hl, ?_⟩, ⟨?_, ?_, ?_⟩, ?_⟩
      · refine ⟨rfl, ?_, fun hn => ⟨a, rfl, fun j p hj => ?_⟩⟩
        · simp only [List.length_map, List.length_range]
          unfold maxLen at hm
          omega
        · obtain ⟨hjl, hp⟩ := List.getElem?_eq_some_iff.1 hj
          simp at hjl
          have hp' : f j = p := by simpa using hp
          obtain ⟨⟨cs', hc, hK⟩, _⟩ := hf j hjl
          obtain ⟨hcl, hcc⟩ := cells_len hc
          refine ⟨cs', by rw [hcl, h.sz], hp' ▸ hK, fun i u hu' => ?_⟩
          have := hcc i u hu'
          rw [Go.Deep.add_add, h.sz] at this
          exact this
      · simp; omega
      · simp only [List.length_map, List.length_range] at hw1 ⊢
        rw [hB] at hw1
        have : len * B ≤ (len + (m - len)) * B := Nat.mul_le_mul_right _ (by omega)
        unfold reachBytes at hw1
        omega
      · intro x hx
        obtain ⟨i, hi, rfl⟩ := List.mem_map.1 hx
        exact (hf i (List.mem_range.1 hi)).2.1
      · simp only [Rows.uptoBulk, bulkAll_sum, List.map_map]
        have := map_sum_le (f := bk ∘ f) (g := Rows.uptoBulk ∘ D) (List.range len) (fun i hi => (hf i (List.mem_range.1 hi)).2.2)
        omega

/-- An argument of a kind of one cell, or a struct: its value, and what is known of it. -/
theorem Opens.arg {P : Program} {t : TypeId} {α : Type} {d : Kd α} {ok : α → Prop} {bk : α → Nat} (h : Opens P t d ok bk) {H : Type} {enc : TypeId × Value → H} {W : World} {held : Bool} {v : Value} {x : DataW H} {ps : List MemPlace}
    (ht : DataW.Trod enc P W 0 (fun _ => true) held t v x ps) (hw : ∀ n ∈ x.weights P t, n ≤ reachBytes) : ∃ a : α, d.K W a v.cells.toList ∧ ok a ∧ bk a ≤ Rows.uptoBulk x := by
  obtain ⟨fuel, hf⟩ := ht
  exact h.get enc W held fuel _ (x, ps) hf hw
theorem each_of {H : Type} {P : Program} {ts : List TypeId} {ds : List (DataW H)} (h : (DataW.weightsEach P ts ds).all (· ≤ reachBytes) = true) {j : Nat} {t : TypeId} {d : DataW H} (ht : ts[j]? = some t) (hd : ds[j]? = some d) : ∀ n ∈ d.weights P t, n ≤ reachBytes :=
  fun n hn => by simpa using List.all_eq_true.1 h n (DataW.weights_mem_each ht hd n hn)

theorem int_of_K {k k' : IntKind} {w : World} {n x : Int} (h : (Kd.int k).K w x (Value.int k' n).cells.toList) : n = x := by
  have h' : [Value.int k' n] = [Value.int k x] := h
  simpa using (List.cons.inj h').1 |> fun e => (Value.int.inj e).2
theorem string_of_K {w : World} {s x : ByteArray} (h : Kd.string.K w x (Value.string s).cells.toList) : s = x := by
  have h' : [Value.string s] = [Value.string x] := h
  exact Value.string.inj (List.cons.inj h').1
theorem bool_of_K {w : World} {v : Value} {x : Bool} (hv : ∃ b, v = .bool b) (h : Kd.bool.K w x v.cells.toList) : v = .bool x := by
  obtain ⟨b, rfl⟩ := hv
  have h' : [Value.bool b] = [Value.bool x] := h
  exact (List.cons.inj h').1
theorem slice_of_K {α : Type} {e : Nat} {d : Kd α} {w : World} {a : Option Addr} {len cap : Nat} {xs : List α} (h : (Kd.slice e d).K w xs (Value.slice a len cap).cells.toList) : len = xs.length ∧ xs.length ≤ cap ∧ Kd.C d w a xs.length xs := by
  obtain ⟨A, c, he, hl, hr⟩ := h
  have h' : [Value.slice a len cap] = [Value.slice A xs.length c] := he
  obtain ⟨rfl, rfl, rfl⟩ := Value.slice.inj (List.cons.inj h').1
  exact ⟨rfl, hl, hr⟩
theorem agg_of_K {cs : Array Value} {l : List Value} (h : (Value.agg cs).cells.toList = l) : cs = l.toArray := by
  have h' : cs.toList = l := h
  rw [← h']
end Go.Proofs.Ytbjlfenappnccaa.OpenWords

end
section
/- The comparisons of strings as the printed functions spell them: each by 'is one less than the other'. -/
set_option linter.unusedVariables false
set_option linter.unusedSimpArgs false
namespace Go.Proofs.Ytbjlfenappnccaa.StrWords
theorem bytesLess_tri : ∀ a b : List UInt8, (!(Op.bytesLess a b || a == b)) = Op.bytesLess b a
  | [], [] => by decide
  | [], _ :: _ => by simp [Op.bytesLess]
  | _ :: _, [] => by simp [Op.bytesLess]
  | a :: x, b :: y => by
    have ih := bytesLess_tri x y
    simp only [Op.bytesLess]
    rcases Nat.lt_trichotomy a.toNat b.toNat with h | h | h
    · have h1 : a < b := UInt8.lt_iff_toNat_lt.2 h
      have h2 : ¬ b < a := fun h' => by have := UInt8.lt_iff_toNat_lt.1 h'; omega
      have h3 : ¬ b = a := fun h' => by subst h'; omega
      simp [h1, h2, h3]
    · have h1 : a = b := UInt8.toNat_inj.1 h
      subst h1
      have h2 : ¬ a < a := fun h' => by have := UInt8.lt_iff_toNat_lt.1 h'; omega
      simp only [h2, decide_false, Bool.false_or, beq_self_eq_true, Bool.true_and, List.cons_beq_cons]
      exact ih
    · have h1 : b < a := UInt8.lt_iff_toNat_lt.2 h
      have h2 : ¬ a < b := fun h' => by have := UInt8.lt_iff_toNat_lt.1 h'; omega
      have h3 : ¬ a = b := fun h' => by subst h'; omega
      simp [h1, h2, h3]
theorem bytesLess_le (a b : List UInt8) : (Op.bytesLess a b || a == b) = !(Op.bytesLess b a) := by
  rw [← bytesLess_tri a b]; simp
@[go_sem] theorem gtr_run (t : TypeId) (a b : ByteArray) : binOp .gtr t (.string a) (.string b) = pure (.bool (Op.bytesLess b.toList a.toList)) := by
  rw [← bytesLess_tri]; simp [binOp, Op.stringOp]
@[go_sem] theorem leq_run (t : TypeId) (a b : ByteArray) : binOp .leq t (.string a) (.string b) = pure (.bool !(Op.bytesLess b.toList a.toList)) := by
  rw [← bytesLess_le]; simp [binOp, Op.stringOp]
@[go_sem] theorem geq_run (t : TypeId) (a b : ByteArray) : binOp .geq t (.string a) (.string b) = pure (.bool !(Op.bytesLess a.toList b.toList)) := by
  simp [binOp, Op.stringOp]
open Go.Proofs.YtbjlfenappnccaaW.PrintWords in
theorem rr_len {α : Type} {R : α → List Value → Prop} {size : Nat} {w : World} {A : Option Addr} {n m : Nat} {ps : List α} (h : m = n) (hr : ReadsRow R size w A m ps) : ReadsRow R size w A n ps := h ▸ hr
section
open Go.RowKit Go.Proofs.YtbjlfenappnccaaW.PrintWords
variable {P : Program} {ops : Array Oper} {rest : List Oper} {o : Oper} {a : Act} {Q : Exit → Act → World → Prop} {α : Type}
/-- 'make([]T, 0, n)': an empty row of one's own, with room. -/
theorem R_make0 (d : Kd α) {w0 W : World} (base e : Nat) (hgd : o.guard = none) {N : Tmp} (hd : o.dst = some N) (t : TypeId) (x y : Operand) (ho : o.op = .makeSlice t x y) (n : Int) (hx : a.eval x = .int .i64 0) (hy : a.eval y = .int .i64 n)
    (ht : P.underlying t = some (.slice e)) (z : Value) (bytes : Nat) (hinfo : (P.info? e).map (fun i => (i.zero, i.size, i.bytes)) = some (some z, d.sz, bytes)) (hz : z.cells.size = d.sz) (hs0 : 0 < d.sz) (hb0 : 0 < bytes)
    (z0 : α) {ok okp : Nat → Prop} (_hzero : d.M W base okp z0 z.cells.toList) (_hok : ∀ k, okp k → ok k) (hfresh : ok W.heap.size) (h0 : 0 ≤ n) (hl : n.toNat * bytes ≤ 281474976710656) (HB : Below base w0 W) (hbase : base ≤ W.heap.size)
    (h : ∀ v1 w1, d.R e w1 base ok v1 [] → Below base w0 w1 → W.grownBy w1 none → (∃ b, v1.ownBlock = some b ∧ W.heap.size ≤ b) → wpList P ops Q rest (a.put o.dst v1) w1) : wpList P ops Q (o :: rest) a W := by
  obtain ⟨m, rfl⟩ := Int.eq_ofNat_of_zero_le h0
  simp only [Int.toNat_natCast] at hl
  obtain ⟨i0, hi, hzz⟩ := Option.map_eq_some_iff.1 hinfo
  simp only [Prod.mk.injEq] at hzz
  obtain ⟨hz0, hz1, hz2⟩ := hzz
  have hm : m ≤ 281474976710656 := Nat.le_trans (Nat.le_mul_of_pos_right _ hb0) hl
  refine wpList_make_own W hgd x y t ho base e i0 z d.sz ht hi hz0 hz1 .i64 .i64 (m : Int) m hx hy rfl (by rw [hz2, Nat.mul_comm]; exact hl) (by unfold maxLen; omega) hbase ?_
  intro w' ho' hg
  refine h _ w' ⟨fun k hk => ?_, [], ?_, ?_⟩ (HB.grown hg hbase (fun k hk => by cases hk)) hg ⟨W.heap.size, by simp [Value.ownBlock], Nat.le_refl _⟩
  · have : W.heap.size = k := by simpa [Value.ownBlock] using hk
    subst this
    exact hfresh
  · exact ho'
  · exact Reps.none _ _
end
end Go.Proofs.Ytbjlfenappnccaa.StrWords

end
section
-- Written by a program of this session (wip/tools/hprint.py, over the kit's printer), not by hand. Lean checks it.
namespace Go.Proofs.Ytbjlfenappnccaa.P
open Go.RowKit Go.Proofs.YtbjlfenappnccaaW.PrintWords Go.Proofs.YtbjlfenappnccaaW.PrintLast Go.Proofs.YtbjlfenappnccaaW.PrintMore
attribute [local go_sem] max2_int min2_int max_two min_two max_three min_three max_four min_four
set_option linter.unusedVariables false
set_option linter.unusedSimpArgs false

def errW : Option Int → Value
  | none => .nilIface
  | some c => .iface 0 (.int .i64 c)
theorem errW_none : errW none = .nilIface := rfl
theorem errW_some (c : Int) : errW (some c) = .iface 0 (.int .i64 c) := rfl
theorem info3 : (Try.prog.info? 3).map (fun i => (i.zero, i.size, i.bytes)) = some (some (.int .i64 0), 1, 8) := by kernel_rfl
theorem info9 : (Try.prog.info? 9).map (fun i => (i.zero, i.size, i.bytes)) = some (some (.string ⟨#[]⟩), 1, 16) := by kernel_rfl
-- the values' own types
def rd_L2 (xs : List (List Int)) (i : Int) : (List Int) := xs.getD i.toNat ([] : List Int)
theorem at_L2 {w : World} {A : Option Addr} {n : Nat} {xs : List (List Int)} (h : Kd.C (Kd.slice 5 (Kd.int .u8)) w A n xs) (i : Int) (h0 : 0 ≤ i) (h1 : i < n) : ∃ ad A0 c0, A = some ad ∧ w.cell? (ad.add i.toNat) = some (.slice A0 (rd_L2 xs i).length c0) ∧ (rd_L2 xs i).length ≤ c0 ∧ (Kd.int .u8).C w A0 (rd_L2 xs i).length (rd_L2 xs i) := by
  obtain ⟨ad, c, e, _, hK, hc0⟩ := Kd.C_get h ([] : List Int) i h0 h1
  have hc : ∀ j u, c[j]? = some u → w.cell? (ad.add (i.toNat * 1 + j)) = some u := hc0
  obtain ⟨A0, c0, rfl, l0, g0⟩ := hK
  exact ⟨ad, A0, c0, e, by have hq := hc 0 _ rfl; rwa [Nat.mul_one, Nat.add_zero] at hq, l0, g0⟩

def rd_L5 (xs : List (List ByteArray)) (i : Int) : (List ByteArray) := xs.getD i.toNat ([] : List ByteArray)
theorem at_L5 {w : World} {A : Option Addr} {n : Nat} {xs : List (List ByteArray)} (h : Kd.C (Kd.slice 9 Kd.string) w A n xs) (i : Int) (h0 : 0 ≤ i) (h1 : i < n) : ∃ ad A0 c0, A = some ad ∧ w.cell? (ad.add i.toNat) = some (.slice A0 (rd_L5 xs i).length c0) ∧ (rd_L5 xs i).length ≤ c0 ∧ Kd.string.C w A0 (rd_L5 xs i).length (rd_L5 xs i) := by
  obtain ⟨ad, c, e, _, hK, hc0⟩ := Kd.C_get h ([] : List ByteArray) i h0 h1
  have hc : ∀ j u, c[j]? = some u → w.cell? (ad.add (i.toNat * 1 + j)) = some u := hc0
  obtain ⟨A0, c0, rfl, l0, g0⟩ := hK
  exact ⟨ad, A0, c0, e, by have hq := hc 0 _ rfl; rwa [Nat.mul_one, Nat.add_zero] at hq, l0, g0⟩

/-! #### struct type 26 -/
structure S26 where
  f0 : Int
  f1 : Int
  f2 : Int
def z26 : S26 := ⟨(0 : Int), (0 : Int), (0 : Int)⟩
def k26 : Kd S26 := Kd.iso (Kd.pair (Kd.int .i64) (Kd.pair (Kd.int .i64) (Kd.int .i64))) (fun x : S26 => (x.f0, x.f1, x.f2))
theorem k26_open {w : World} {x : S26} {cs : List Value} (h : k26.K w x cs) : cs = [.int .i64 x.f0, .int .i64 x.f1, .int .i64 x.f2] := by
  obtain ⟨_, _, rfl, rfl, ⟨_, _, rfl, rfl, rfl⟩⟩ := h
  exact rfl
theorem k26_openM {w : World} {base : Nat} {ok : Nat → Prop} {x : S26} {cs : List Value} (h : k26.M w base ok x cs) : cs = [.int .i64 x.f0, .int .i64 x.f1, .int .i64 x.f2] := by
  obtain ⟨_, _, rfl, rfl, ⟨_, _, rfl, rfl, rfl⟩⟩ := h
  exact rfl
theorem k26_mk (w : World) (x : S26)  : k26.K w x [.int .i64 x.f0, .int .i64 x.f1, .int .i64 x.f2] := ⟨[.int .i64 x.f0], [.int .i64 x.f1, .int .i64 x.f2], rfl, rfl, ⟨[.int .i64 x.f1], [.int .i64 x.f2], rfl, rfl, rfl⟩⟩
theorem k26_mkM (w : World) (base : Nat) (ok : Nat → Prop) (x : S26)  : k26.M w base ok x [.int .i64 x.f0, .int .i64 x.f1, .int .i64 x.f2] := ⟨[.int .i64 x.f0], [.int .i64 x.f1, .int .i64 x.f2], rfl, rfl, ⟨[.int .i64 x.f1], [.int .i64 x.f2], rfl, rfl, rfl⟩⟩
def rd_T26 (xs : List S26) (i : Int) : S26 := xs.getD i.toNat z26
theorem at_T26 {w : World} {A : Option Addr} {n : Nat} {xs : List S26} (h : Kd.C k26 w A n xs) (i : Int) (h0 : 0 ≤ i) (h1 : i < n) : ∃ ad , A = some ad ∧ w.cell? (ad.add (i.toNat * 3)) = some (.int .i64 (rd_T26 xs i).f0) ∧ w.cell? ⟨(ad.add (i.toNat * 3)).block, (ad.add (i.toNat * 3)).off + 1, none⟩ = some (.int .i64 (rd_T26 xs i).f1) ∧ w.cell? ⟨(ad.add (i.toNat * 3)).block, (ad.add (i.toNat * 3)).off + 2, none⟩ = some (.int .i64 (rd_T26 xs i).f2) := by
  obtain ⟨ad, c, e, _, hK, hc0⟩ := Kd.C_get h z26 i h0 h1
  have hc : ∀ j u, c[j]? = some u → w.cell? (ad.add (i.toNat * 3 + j)) = some u := hc0
  obtain rfl := k26_open hK
  exact ⟨ad, e, hc 0 _ rfl, by rw [← add_field _ _ 1 (by omega)]; exact hc 1 _ rfl, by rw [← add_field _ _ 2 (by omega)]; exact hc 2 _ rfl⟩

/-! #### struct type 28 -/
structure S28 where
  f0 : Int
  f1 : Int
  f2 : (List ByteArray)
  f3 : Bool
  f4 : Int
  f5 : Int
  f6 : Int
  f7 : S26
def z28 : S28 := ⟨(0 : Int), (0 : Int), ([] : List ByteArray), false, (0 : Int), (0 : Int), (0 : Int), z26⟩
def k28 : Kd S28 := Kd.iso (Kd.pair (Kd.int .i64) (Kd.pair (Kd.int .i64) (Kd.pair (Kd.slice 9 Kd.string) (Kd.pair Kd.bool (Kd.pair (Kd.int .i64) (Kd.pair (Kd.int .i64) (Kd.pair (Kd.int .i64) k26))))))) (fun x : S28 => (x.f0, x.f1, x.f2, x.f3, x.f4, x.f5, x.f6, x.f7))
theorem k28_open {w : World} {x : S28} {cs : List Value} (h : k28.K w x cs) : ∃ A2 c2, cs = [.int .i64 x.f0, .int .i64 x.f1, .slice A2 x.f2.length c2, .bool x.f3, .int .i64 x.f4, .int .i64 x.f5, .int .i64 x.f6, .int .i64 x.f7.f0, .int .i64 x.f7.f1, .int .i64 x.f7.f2] ∧ x.f2.length ≤ c2 ∧ Kd.string.C w A2 x.f2.length x.f2 := by
  obtain ⟨_, _, rfl, rfl, ⟨_, _, rfl, rfl, ⟨_, _, rfl, ⟨A2, c2, rfl, l2, g2⟩, ⟨_, _, rfl, rfl, ⟨_, _, rfl, rfl, ⟨_, _, rfl, rfl, ⟨_, _, rfl, rfl, s7⟩⟩⟩⟩⟩⟩⟩ := h
  obtain rfl := k26_open s7
  exact ⟨A2, c2, rfl, l2, g2⟩
theorem k28_openM {w : World} {base : Nat} {ok : Nat → Prop} {x : S28} {cs : List Value} (h : k28.M w base ok x cs) : ∃ v2, cs = [.int .i64 x.f0, .int .i64 x.f1, v2, .bool x.f3, .int .i64 x.f4, .int .i64 x.f5, .int .i64 x.f6, .int .i64 x.f7.f0, .int .i64 x.f7.f1, .int .i64 x.f7.f2] ∧ Kd.string.R 9 w base ok v2 x.f2 := by
  obtain ⟨_, _, rfl, rfl, ⟨_, _, rfl, rfl, ⟨_, _, rfl, ⟨v2, rfl, g2⟩, ⟨_, _, rfl, rfl, ⟨_, _, rfl, rfl, ⟨_, _, rfl, rfl, ⟨_, _, rfl, rfl, s7⟩⟩⟩⟩⟩⟩⟩ := h
  obtain rfl := k26_openM s7
  exact ⟨v2, rfl, g2⟩
theorem k28_mk (w : World) (x : S28) {A2 : Option Addr} {c2 : Nat} (l2 : x.f2.length ≤ c2) (g2 : Kd.string.C w A2 x.f2.length x.f2) : k28.K w x [.int .i64 x.f0, .int .i64 x.f1, .slice A2 x.f2.length c2, .bool x.f3, .int .i64 x.f4, .int .i64 x.f5, .int .i64 x.f6, .int .i64 x.f7.f0, .int .i64 x.f7.f1, .int .i64 x.f7.f2] := ⟨[.int .i64 x.f0], [.int .i64 x.f1, .slice A2 x.f2.length c2, .bool x.f3, .int .i64 x.f4, .int .i64 x.f5, .int .i64 x.f6, .int .i64 x.f7.f0, .int .i64 x.f7.f1, .int .i64 x.f7.f2], rfl, rfl, ⟨[.int .i64 x.f1], [.slice A2 x.f2.length c2, .bool x.f3, .int .i64 x.f4, .int .i64 x.f5, .int .i64 x.f6, .int .i64 x.f7.f0, .int .i64 x.f7.f1, .int .i64 x.f7.f2], rfl, rfl, ⟨[.slice A2 x.f2.length c2], [.bool x.f3, .int .i64 x.f4, .int .i64 x.f5, .int .i64 x.f6, .int .i64 x.f7.f0, .int .i64 x.f7.f1, .int .i64 x.f7.f2], rfl, ⟨A2, c2, rfl, l2, g2⟩, ⟨[.bool x.f3], [.int .i64 x.f4, .int .i64 x.f5, .int .i64 x.f6, .int .i64 x.f7.f0, .int .i64 x.f7.f1, .int .i64 x.f7.f2], rfl, rfl, ⟨[.int .i64 x.f4], [.int .i64 x.f5, .int .i64 x.f6, .int .i64 x.f7.f0, .int .i64 x.f7.f1, .int .i64 x.f7.f2], rfl, rfl, ⟨[.int .i64 x.f5], [.int .i64 x.f6, .int .i64 x.f7.f0, .int .i64 x.f7.f1, .int .i64 x.f7.f2], rfl, rfl, ⟨[.int .i64 x.f6], [.int .i64 x.f7.f0, .int .i64 x.f7.f1, .int .i64 x.f7.f2], rfl, rfl, (k26_mk w x.f7 )⟩⟩⟩⟩⟩⟩⟩
theorem k28_mkM (w : World) (base : Nat) (ok : Nat → Prop) (x : S28) {v2 : Value} (g2 : Kd.string.R 9 w base ok v2 x.f2) : k28.M w base ok x [.int .i64 x.f0, .int .i64 x.f1, v2, .bool x.f3, .int .i64 x.f4, .int .i64 x.f5, .int .i64 x.f6, .int .i64 x.f7.f0, .int .i64 x.f7.f1, .int .i64 x.f7.f2] := ⟨[.int .i64 x.f0], [.int .i64 x.f1, v2, .bool x.f3, .int .i64 x.f4, .int .i64 x.f5, .int .i64 x.f6, .int .i64 x.f7.f0, .int .i64 x.f7.f1, .int .i64 x.f7.f2], rfl, rfl, ⟨[.int .i64 x.f1], [v2, .bool x.f3, .int .i64 x.f4, .int .i64 x.f5, .int .i64 x.f6, .int .i64 x.f7.f0, .int .i64 x.f7.f1, .int .i64 x.f7.f2], rfl, rfl, ⟨[v2], [.bool x.f3, .int .i64 x.f4, .int .i64 x.f5, .int .i64 x.f6, .int .i64 x.f7.f0, .int .i64 x.f7.f1, .int .i64 x.f7.f2], rfl, ⟨v2, rfl, g2⟩, ⟨[.bool x.f3], [.int .i64 x.f4, .int .i64 x.f5, .int .i64 x.f6, .int .i64 x.f7.f0, .int .i64 x.f7.f1, .int .i64 x.f7.f2], rfl, rfl, ⟨[.int .i64 x.f4], [.int .i64 x.f5, .int .i64 x.f6, .int .i64 x.f7.f0, .int .i64 x.f7.f1, .int .i64 x.f7.f2], rfl, rfl, ⟨[.int .i64 x.f5], [.int .i64 x.f6, .int .i64 x.f7.f0, .int .i64 x.f7.f1, .int .i64 x.f7.f2], rfl, rfl, ⟨[.int .i64 x.f6], [.int .i64 x.f7.f0, .int .i64 x.f7.f1, .int .i64 x.f7.f2], rfl, rfl, (k26_mkM w base ok x.f7 )⟩⟩⟩⟩⟩⟩⟩
def rd_T28 (xs : List S28) (i : Int) : S28 := xs.getD i.toNat z28
theorem at_T28 {w : World} {A : Option Addr} {n : Nat} {xs : List S28} (h : Kd.C k28 w A n xs) (i : Int) (h0 : 0 ≤ i) (h1 : i < n) : ∃ ad A2 c2, A = some ad ∧ w.cell? (ad.add (i.toNat * 10)) = some (.int .i64 (rd_T28 xs i).f0) ∧ w.cell? ⟨(ad.add (i.toNat * 10)).block, (ad.add (i.toNat * 10)).off + 1, none⟩ = some (.int .i64 (rd_T28 xs i).f1) ∧ w.cell? ⟨(ad.add (i.toNat * 10)).block, (ad.add (i.toNat * 10)).off + 2, none⟩ = some (.slice A2 (rd_T28 xs i).f2.length c2) ∧ w.cell? ⟨(ad.add (i.toNat * 10)).block, (ad.add (i.toNat * 10)).off + 3, none⟩ = some (.bool (rd_T28 xs i).f3) ∧ w.cell? ⟨(ad.add (i.toNat * 10)).block, (ad.add (i.toNat * 10)).off + 4, none⟩ = some (.int .i64 (rd_T28 xs i).f4) ∧ w.cell? ⟨(ad.add (i.toNat * 10)).block, (ad.add (i.toNat * 10)).off + 5, none⟩ = some (.int .i64 (rd_T28 xs i).f5) ∧ w.cell? ⟨(ad.add (i.toNat * 10)).block, (ad.add (i.toNat * 10)).off + 6, none⟩ = some (.int .i64 (rd_T28 xs i).f6) ∧ w.cell? ⟨(ad.add (i.toNat * 10)).block, (ad.add (i.toNat * 10)).off + 7, none⟩ = some (.int .i64 (rd_T28 xs i).f7.f0) ∧ w.cell? ⟨(ad.add (i.toNat * 10)).block, (ad.add (i.toNat * 10)).off + 8, none⟩ = some (.int .i64 (rd_T28 xs i).f7.f1) ∧ w.cell? ⟨(ad.add (i.toNat * 10)).block, (ad.add (i.toNat * 10)).off + 9, none⟩ = some (.int .i64 (rd_T28 xs i).f7.f2) ∧ (rd_T28 xs i).f2.length ≤ c2 ∧ Kd.string.C w A2 (rd_T28 xs i).f2.length (rd_T28 xs i).f2 := by
  obtain ⟨ad, c, e, _, hK, hc0⟩ := Kd.C_get h z28 i h0 h1
  have hc : ∀ j u, c[j]? = some u → w.cell? (ad.add (i.toNat * 10 + j)) = some u := hc0
  obtain ⟨A2, c2, rfl, l2, g2⟩ := k28_open hK
  exact ⟨ad, A2, c2, e, hc 0 _ rfl, by rw [← add_field _ _ 1 (by omega)]; exact hc 1 _ rfl, by rw [← add_field _ _ 2 (by omega)]; exact hc 2 _ rfl, by rw [← add_field _ _ 3 (by omega)]; exact hc 3 _ rfl, by rw [← add_field _ _ 4 (by omega)]; exact hc 4 _ rfl, by rw [← add_field _ _ 5 (by omega)]; exact hc 5 _ rfl, by rw [← add_field _ _ 6 (by omega)]; exact hc 6 _ rfl, by rw [← add_field _ _ 7 (by omega)]; exact hc 7 _ rfl, by rw [← add_field _ _ 8 (by omega)]; exact hc 8 _ rfl, by rw [← add_field _ _ 9 (by omega)]; exact hc 9 _ rfl, l2, g2⟩

end Go.Proofs.Ytbjlfenappnccaa.P

end
section
-- Written by a program of this session (wip/tools/hprint.py, over the kit's printer), not by hand. Lean checks it.
namespace Go.Proofs.Ytbjlfenappnccaa.P
open Go.RowKit Go.Proofs.YtbjlfenappnccaaW.PrintWords Go.Proofs.Ytbjlfenappnccaa.OpenWords
set_option linter.unusedVariables false
def ok26 (x : S26) : Prop := ((Lit.int .i64 x.f0).wf = true) ∧ ((Lit.int .i64 x.f1).wf = true) ∧ (Lit.int .i64 x.f2).wf = true
def bk26 (x : S26) : Nat := (1 + (1 + 1)) + 1
instance : Inhabited S26 := ⟨z26⟩
theorem opens26 : Opens Try.prog 26 k26 ok26 bk26 :=
  opens_struct (fun x : S26 => (x.f0, x.f1, x.f2)) (fun a => ⟨a.1, a.2.1, a.2.2⟩) (fun _ => rfl) Try.underlying26 (by kernel_rfl) (opensF_cons (opens_int Try.underlying3 (by kernel_rfl)) rfl (opensF_cons (opens_int Try.underlying3 (by kernel_rfl)) rfl (opensF_one (opens_int Try.underlying3 (by kernel_rfl)))))
def ok28 (x : S28) : Prop := ((Lit.int .i64 x.f0).wf = true) ∧ ((Lit.int .i64 x.f1).wf = true) ∧ (x.f2.length ≤ maxLen ∧ x.f2.length * 16 ≤ 140737488351232 ∧ ∀ y ∈ x.f2, y.size ≤ 140737488351232) ∧ (True) ∧ ((Lit.int .i64 x.f4).wf = true) ∧ ((Lit.int .i64 x.f5).wf = true) ∧ ((Lit.int .i64 x.f6).wf = true) ∧ ok26 x.f7
def bk28 (x : S28) : Nat := (1 + (1 + (((x.f2.map fun x => (x.size + 1)).sum + 1) + (1 + (1 + (1 + (1 + (bk26 x.f7)))))))) + 1
instance : Inhabited S28 := ⟨z28⟩
theorem opens28 : Opens Try.prog 28 k28 ok28 bk28 :=
  opens_struct (fun x : S28 => (x.f0, x.f1, x.f2, x.f3, x.f4, x.f5, x.f6, x.f7)) (fun a => ⟨a.1, a.2.1, a.2.2.1, a.2.2.2.1, a.2.2.2.2.1, a.2.2.2.2.2.1, a.2.2.2.2.2.2.1, a.2.2.2.2.2.2.2⟩) (fun _ => rfl) Try.underlying28 (by kernel_rfl) (opensF_cons (opens_int Try.underlying3 (by kernel_rfl)) rfl (opensF_cons (opens_int Try.underlying3 (by kernel_rfl)) rfl (opensF_cons (opens_slice 16 Try.underlying24 (by kernel_rfl) (by kernel_rfl) (opens_string Try.underlying9 (by kernel_rfl))) rfl (opensF_cons (opens_bool Try.underlying4 (by kernel_rfl)) rfl (opensF_cons (opens_int Try.underlying3 (by kernel_rfl)) rfl (opensF_cons (opens_int Try.underlying3 (by kernel_rfl)) rfl (opensF_cons (opens_int Try.underlying3 (by kernel_rfl)) rfl (opensF_one opens26))))))))
end Go.Proofs.Ytbjlfenappnccaa.P

end
section
-- Written by a program of this session (wip/tools/hprint.py, over the kit's printer), not by hand. Lean checks it.
namespace Go.Proofs.Ytbjlfenappnccaa.P
open Go.RowKit Go.Proofs.YtbjlfenappnccaaW.PrintWords Go.Proofs.YtbjlfenappnccaaW.PrintLast Go.Proofs.YtbjlfenappnccaaW.PrintMore
attribute [local go_sem] max2_int min2_int max_two min_two max_three min_three max_four min_four
set_option linter.unusedVariables false
set_option linter.unusedSimpArgs false

/-! ### nums_Compare: function 19 -/
def nums_Compare.l0 : Nat → ByteArray → ByteArray → Int → Int → Option (Int)
  | 0, _, _, _, _ => none
  | k + 1, x0, x1, x10, x11 => if x11 < x10 then (if 0 ≤ x11 then (if x11 < (x0.size : Int) then (if x11 < (x1.size : Int) then (if (bt x0 x11) < (bt x1 x11) then (some (-1)) else (if (bt x0 x11) > (bt x1 x11) then (some 1) else (nums_Compare.l0 k x0 x1 x10 (wrap64 (x11 + 1))))) else (none)) else (none)) else (none)) else (if (x0.size : Int) < (x1.size : Int) then (some (-1)) else (if (x0.size : Int) > (x1.size : Int) then (some 1) else (some 0)))
def nums_Compare.f (k : Nat) (a0 : ByteArray) (a1 : ByteArray) : Option (Int) := nums_Compare.l0 k a0 a1 (mn (a0.size : Int) (a1.size : Int)) 0
theorem nums_Compare.mono_l : ∀ k, (∀ y0 y1 y2 y3, LeO (nums_Compare.l0 k y0 y1 y2 y3) (nums_Compare.l0 (k + 1) y0 y1 y2 y3))
  | 0 => fun _ _ _ _ r h => by simp [nums_Compare.l0] at h
  | k + 1 => by
    have ih0 := nums_Compare.mono_l k
    · intro y0 y1 y2 y3
      unfold nums_Compare.l0
      repeat' first
      | (with_reducible exact ih0 _ _ _ _)
      | (with_reducible exact LeO.refl _)
      | (with_reducible exact LeO.none _)
      | (with_reducible refine LeO.ite ?_ ?_)
      | (with_reducible refine LeO.bind ?_ (fun _ => ?_))
      | exact ih0 _ _ _ _
      | exact LeO.none _
      | refine LeO.ite ?_ ?_
      | refine LeO.bind ?_ (fun _ => ?_)
theorem nums_Compare.mono : ∀ a0 a1 k, LeO (nums_Compare.f k a0 a1) (nums_Compare.f (k + 1) a0 a1) := by
  intro a0 a1 k
  have ih0 := nums_Compare.mono_l k
  unfold nums_Compare.f
  repeat' first
      | (with_reducible exact ih0 _ _ _ _)
      | (with_reducible exact LeO.refl _)
      | (with_reducible exact LeO.none _)
      | (with_reducible refine LeO.ite ?_ ?_)
      | (with_reducible refine LeO.bind ?_ (fun _ => ?_))
      | exact ih0 _ _ _ _
      | exact LeO.none _
      | refine LeO.ite ?_ ?_
      | refine LeO.bind ?_ (fun _ => ?_)
set_option maxHeartbeats 8000000 in
set_option maxRecDepth 100000 in
theorem nums_Compare.calls (k : Nat) (a0 : ByteArray) (a1 : ByteArray) (r : Int) (w : World) (h : nums_Compare.f k a0 a1 = some r) :
    Calls Try.prog 19 #[.string a0, .string a1] w fun e w' => e = .returned (.int .i64 r) ∧ Below w.heap.size w w' := by
  have HB := Aside0.mk (Below.refl w.heap.size w)
  have H : (nums_Compare.l0 k a0 a1 (mn (a0.size : Int) (a1.size : Int)) 0) = some r := h
  clear h
  obtain ⟨ji3, hji3⟩ : ∃ j_ : Int, (mn (a0.size : Int) (a1.size : Int)) = j_ := ⟨_, rfl⟩
  replace H : (nums_Compare.l0 k a0 a1 ji3 0) = some r := by first | (rw [hji3] at H; exact H) | (simp only [hji3] at H ⊢; exact H)
  (try (have hji3l : 0 ≤ ji3 := by (rw [← hji3]; unfold mn; (repeat' split) <;> omega)))
  (try (have hji3m : 0 ≤ ji3 := by omega))
  have hji3_ : (if (a1.size : Int) < (a0.size : Int) then (a1.size : Int) else (a0.size : Int)) = ji3 := hji3
  (try (have hji3n : (if a1.size < a0.size then (a1.size : Int) else (a0.size : Int)) = ji3 := by (rw [← hji3_]; (repeat' split) <;> omega)))
  have H' := Aside0.mk H
  clear H
  go_enter Try.func19, Try.ntmps19
  go_wp2
  repeat (go_quiet (fail); try go_wp2)
  go_loopg [11] k (fun kq v11 w' => ∃ (x11_1 : Int), v11 = .int .i64 x11_1 ∧ Aside0 (nums_Compare.l0 kq a0 a1 ji3 x11_1 = some r) ∧ Aside0 (kq ≤ k) ∧ Aside0 (Below w.heap.size w w'))
  case atStart => exact ⟨(0), (by first | rfl | (simp; done) | (simp [*]; done)), H', ⟨Nat.le_refl _⟩, ⟨by repeat (first | (with_reducible first | exact HB.out | apply below_alloc | apply pw_below_drewN | apply below_drew1) | exact HB.out)⟩⟩
  case round =>
    clear H'
    try clear c1
    try clear p2
    obtain ⟨x11_1, rfl, HA, HK1, HB⟩ := hrel
    cases gk with
    | zero => exact absurd HA.out (by simp [nums_Compare.l0])
    | succ k1 =>
      have H := HA.out
      clear HA
      simp only [nums_Compare.l0] at H
      by_cases c4 : x11_1 < ji3
      · rw [if_pos c4] at H
        have c4b0 : decide (x11_1 < ji3) = true := decide_eq_true c4
        clear c4
        by_cases c5 : 0 ≤ x11_1
        · rw [if_pos c5] at H
          have c5b0 : decide (0 ≤ x11_1) = true := decide_eq_true c5
          clear c5
          by_cases c6 : x11_1 < (a0.size : Int)
          · rw [if_pos c6] at H
            have c6b0 : decide (x11_1 < (a0.size : Int)) = true := decide_eq_true c6
            clear c6
            by_cases c8 : x11_1 < (a1.size : Int)
            · rw [if_pos c8] at H
              have c8b0 : decide (x11_1 < (a1.size : Int)) = true := decide_eq_true c8
              clear c8
              by_cases c10 : (bt a0 x11_1) < (bt a1 x11_1)
              · rw [if_pos c10] at H
                have c10b0 : decide ((bt a0 x11_1) < (bt a1 x11_1)) = true := decide_eq_true c10
                clear c10
                obtain rfl := Option.some.inj H
                have p7 : 0 ≤ (x11_1 : Int) := of_decide_eq_true (by first | (with_reducible assumption) | assumption)
                have q7 : x11_1 < (a0.size : Int) := of_decide_eq_true (by first | (with_reducible assumption) | assumption)
                have hx7 := bt_at a0 x11_1
                replace p7 := eq_true p7
                replace q7 := eq_true q7
                have p9 : 0 ≤ (x11_1 : Int) := of_decide_eq_true (by first | (with_reducible assumption) | assumption)
                have q9 : x11_1 < (a1.size : Int) := of_decide_eq_true (by first | (with_reducible assumption) | assumption)
                have hx9 := bt_at a1 x11_1
                replace p9 := eq_true p9
                replace q9 := eq_true q9
                go_wp2
                repeat (go_quiet (fail); try go_wp2)
                go_ret
                exact ⟨by first | rfl | (simp [errW_none, errW_some] <;> rfl) | (simp only [← hji3]; first | rfl | (simp [errW_none, errW_some] <;> rfl)) | (simp [*, errW_none, errW_some] <;> rfl), by repeat (first | (with_reducible first | exact HB.out | apply below_alloc | apply pw_below_drewN | apply below_drew1) | exact HB.out)⟩
              · rw [if_neg c10] at H
                have c10b0 : decide ((bt a0 x11_1) < (bt a1 x11_1)) = false := decide_eq_false c10
                clear c10
                by_cases c13 : (bt a0 x11_1) > (bt a1 x11_1)
                · rw [if_pos c13] at H
                  have c13b0 : decide ((bt a1 x11_1) < (bt a0 x11_1)) = true := decide_eq_true c13
                  clear c13
                  obtain rfl := Option.some.inj H
                  have p7 : 0 ≤ (x11_1 : Int) := of_decide_eq_true (by first | (with_reducible assumption) | assumption)
                  have q7 : x11_1 < (a0.size : Int) := of_decide_eq_true (by first | (with_reducible assumption) | assumption)
                  have hx7 := bt_at a0 x11_1
                  replace p7 := eq_true p7
                  replace q7 := eq_true q7
                  have p9 : 0 ≤ (x11_1 : Int) := of_decide_eq_true (by first | (with_reducible assumption) | assumption)
                  have q9 : x11_1 < (a1.size : Int) := of_decide_eq_true (by first | (with_reducible assumption) | assumption)
                  have hx9 := bt_at a1 x11_1
                  replace p9 := eq_true p9
                  replace q9 := eq_true q9
                  have p11 : 0 ≤ (x11_1 : Int) := of_decide_eq_true (by first | (with_reducible assumption) | assumption)
                  have q11 : x11_1 < (a0.size : Int) := of_decide_eq_true (by first | (with_reducible assumption) | assumption)
                  have hx11 := bt_at a0 x11_1
                  replace p11 := eq_true p11
                  replace q11 := eq_true q11
                  have p12 : 0 ≤ (x11_1 : Int) := of_decide_eq_true (by first | (with_reducible assumption) | assumption)
                  have q12 : x11_1 < (a1.size : Int) := of_decide_eq_true (by first | (with_reducible assumption) | assumption)
                  have hx12 := bt_at a1 x11_1
                  replace p12 := eq_true p12
                  replace q12 := eq_true q12
                  go_wp2
                  repeat (go_quiet (fail); try go_wp2)
                  go_ret
                  exact ⟨by first | rfl | (simp [errW_none, errW_some] <;> rfl) | (simp only [← hji3]; first | rfl | (simp [errW_none, errW_some] <;> rfl)) | (simp [*, errW_none, errW_some] <;> rfl), by repeat (first | (with_reducible first | exact HB.out | apply below_alloc | apply pw_below_drewN | apply below_drew1) | exact HB.out)⟩
                · rw [if_neg c13] at H
                  have c13b0 : decide ((bt a1 x11_1) < (bt a0 x11_1)) = false := decide_eq_false c13
                  clear c13
                  have H' := Aside0.mk H
                  clear H
                  have p7 : 0 ≤ (x11_1 : Int) := of_decide_eq_true (by first | (with_reducible assumption) | assumption)
                  have q7 : x11_1 < (a0.size : Int) := of_decide_eq_true (by first | (with_reducible assumption) | assumption)
                  have hx7 := bt_at a0 x11_1
                  replace p7 := eq_true p7
                  replace q7 := eq_true q7
                  have p9 : 0 ≤ (x11_1 : Int) := of_decide_eq_true (by first | (with_reducible assumption) | assumption)
                  have q9 : x11_1 < (a1.size : Int) := of_decide_eq_true (by first | (with_reducible assumption) | assumption)
                  have hx9 := bt_at a1 x11_1
                  replace p9 := eq_true p9
                  replace q9 := eq_true q9
                  have p11 : 0 ≤ (x11_1 : Int) := of_decide_eq_true (by first | (with_reducible assumption) | assumption)
                  have q11 : x11_1 < (a0.size : Int) := of_decide_eq_true (by first | (with_reducible assumption) | assumption)
                  have hx11 := bt_at a0 x11_1
                  replace p11 := eq_true p11
                  replace q11 := eq_true q11
                  have p12 : 0 ≤ (x11_1 : Int) := of_decide_eq_true (by first | (with_reducible assumption) | assumption)
                  have q12 : x11_1 < (a1.size : Int) := of_decide_eq_true (by first | (with_reducible assumption) | assumption)
                  have hx12 := bt_at a1 x11_1
                  replace p12 := eq_true p12
                  replace q12 := eq_true q12
                  go_wp2
                  repeat (go_quiet (fail); try go_wp2)
                  go_roundg k1
                  case measure => have := HK1.out; omega
                  case rel => exact ⟨(wrap64 (x11_1 + 1)), (by first | rfl | (simp; done) | (simp [*]; done)), H', ⟨by have := HK1.out; omega⟩, ⟨by repeat (first | (with_reducible first | exact HB.out | apply below_alloc | apply pw_below_drewN | apply below_drew1) | exact HB.out)⟩⟩
            · rw [if_neg c8] at H
              exact absurd H (by simp)
          · rw [if_neg c6] at H
            exact absurd H (by simp)
        · rw [if_neg c5] at H
          exact absurd H (by simp)
      · rw [if_neg c4] at H
        have c4b0 : decide (x11_1 < ji3) = false := decide_eq_false c4
        clear c4
        by_cases c14 : (a0.size : Int) < (a1.size : Int)
        · rw [if_pos c14] at H
          have c14b0 : decide ((a0.size : Int) < (a1.size : Int)) = true := decide_eq_true c14
          have c14b1 : decide (a0.size < a1.size) = true := decide_eq_true (Int.ofNat_lt.mp c14)
          clear c14
          obtain rfl := Option.some.inj H
          go_wp2
          repeat (go_quiet (fail); try go_wp2)
          go_ret
          exact ⟨by first | rfl | (simp [errW_none, errW_some] <;> rfl) | (simp only [← hji3]; first | rfl | (simp [errW_none, errW_some] <;> rfl)) | (simp [*, errW_none, errW_some] <;> rfl), by repeat (first | (with_reducible first | exact HB.out | apply below_alloc | apply pw_below_drewN | apply below_drew1) | exact HB.out)⟩
        · rw [if_neg c14] at H
          have c14b0 : decide ((a0.size : Int) < (a1.size : Int)) = false := decide_eq_false c14
          have c14b1 : decide (a0.size < a1.size) = false := decide_eq_false (fun h => c14 (Int.ofNat_lt.mpr h))
          clear c14
          by_cases c15 : (a0.size : Int) > (a1.size : Int)
          · rw [if_pos c15] at H
            have c15b0 : decide ((a1.size : Int) < (a0.size : Int)) = true := decide_eq_true c15
            have c15b1 : decide (a1.size < a0.size) = true := decide_eq_true (Int.ofNat_lt.mp c15)
            clear c15
            obtain rfl := Option.some.inj H
            go_wp2
            repeat (go_quiet (fail); try go_wp2)
            go_ret
            exact ⟨by first | rfl | (simp [errW_none, errW_some] <;> rfl) | (simp only [← hji3]; first | rfl | (simp [errW_none, errW_some] <;> rfl)) | (simp [*, errW_none, errW_some] <;> rfl), by repeat (first | (with_reducible first | exact HB.out | apply below_alloc | apply pw_below_drewN | apply below_drew1) | exact HB.out)⟩
          · rw [if_neg c15] at H
            have c15b0 : decide ((a1.size : Int) < (a0.size : Int)) = false := decide_eq_false c15
            have c15b1 : decide (a1.size < a0.size) = false := decide_eq_false (fun h => c15 (Int.ofNat_lt.mpr h))
            clear c15
            obtain rfl := Option.some.inj H
            go_wp2
            repeat (go_quiet (fail); try go_wp2)
            go_ret
            exact ⟨by first | rfl | (simp [errW_none, errW_some] <;> rfl) | (simp only [← hji3]; first | rfl | (simp [errW_none, errW_some] <;> rfl)) | (simp [*, errW_none, errW_some] <;> rfl), by repeat (first | (with_reducible first | exact HB.out | apply below_alloc | apply pw_below_drewN | apply below_drew1) | exact HB.out)⟩

end Go.Proofs.Ytbjlfenappnccaa.P

end
section
/- nums.Compare reads and draws; it lays nothing. The printed walk, its promise made sharper (wip/parts/mkcmpq.py). -/
namespace Go.Proofs.Ytbjlfenappnccaa.P
open Go.RowKit Go.Proofs.YtbjlfenappnccaaW.PrintWords Go.Proofs.YtbjlfenappnccaaW.PrintLast Go.Proofs.YtbjlfenappnccaaW.PrintMore
attribute [local go_sem] max2_int min2_int max_two min_two max_three min_three max_four min_four
set_option linter.unusedVariables false
set_option linter.unusedSimpArgs false
/-- the world, some draws on -/
def Drew (w w' : World) : Prop := ∃ q, w' = w.drewN q
theorem Drew.refl (w : World) : Drew w w := ⟨0, rfl⟩
theorem Drew.drewN {w W : World} (h : Drew w W) (n : Nat) : Drew w (W.drewN n) := by obtain ⟨q, rfl⟩ := h; exact ⟨q + n, World.drewN_drewN ..⟩
theorem Drew.drew {w W : World} (h : Drew w W) : Drew w W.drew := h.drewN 1
set_option maxHeartbeats 8000000 in
set_option maxRecDepth 100000 in
theorem nums_Compare.drew (k : Nat) (a0 : ByteArray) (a1 : ByteArray) (r : Int) (w : World) (h : nums_Compare.f k a0 a1 = some r) :
    Calls Try.prog 19 #[.string a0, .string a1] w fun e w' => e = .returned (.int .i64 r) ∧ Drew w w' := by
  have HB := Aside0.mk (Drew.refl w)
  have H : (nums_Compare.l0 k a0 a1 (mn (a0.size : Int) (a1.size : Int)) 0) = some r := h
  clear h
  obtain ⟨ji3, hji3⟩ : ∃ j_ : Int, (mn (a0.size : Int) (a1.size : Int)) = j_ := ⟨_, rfl⟩
  replace H : (nums_Compare.l0 k a0 a1 ji3 0) = some r := by first | (rw [hji3] at H; exact H) | (simp only [hji3] at H ⊢; exact H)
  (try (have hji3l : 0 ≤ ji3 := by (rw [← hji3]; unfold mn; (repeat' split) <;> omega)))
  (try (have hji3m : 0 ≤ ji3 := by omega))
  have hji3_ : (if (a1.size : Int) < (a0.size : Int) then (a1.size : Int) else (a0.size : Int)) = ji3 := hji3
  (try (have hji3n : (if a1.size < a0.size then (a1.size : Int) else (a0.size : Int)) = ji3 := by (rw [← hji3_]; (repeat' split) <;> omega)))
  have H' := Aside0.mk H
  clear H
  go_enter Try.func19, Try.ntmps19
  go_wp2
  repeat (go_quiet (fail); try go_wp2)
  go_loopg [11] k (fun kq v11 w' => ∃ (x11_1 : Int), v11 = .int .i64 x11_1 ∧ Aside0 (nums_Compare.l0 kq a0 a1 ji3 x11_1 = some r) ∧ Aside0 (kq ≤ k) ∧ Aside0 (Drew w w'))
  case atStart => exact ⟨(0), (by first | rfl | (simp; done) | (simp [*]; done)), H', ⟨Nat.le_refl _⟩, ⟨by repeat (first | (with_reducible first | exact HB.out | apply Drew.drewN | apply Drew.drew) | exact HB.out)⟩⟩
  case round =>
    clear H'
    try clear c1
    try clear p2
    obtain ⟨x11_1, rfl, HA, HK1, HB⟩ := hrel
    cases gk with
    | zero => exact absurd HA.out (by simp [nums_Compare.l0])
    | succ k1 =>
      have H := HA.out
      clear HA
      simp only [nums_Compare.l0] at H
      by_cases c4 : x11_1 < ji3
      · rw [if_pos c4] at H
        have c4b0 : decide (x11_1 < ji3) = true := decide_eq_true c4
        clear c4
        by_cases c5 : 0 ≤ x11_1
        · rw [if_pos c5] at H
          have c5b0 : decide (0 ≤ x11_1) = true := decide_eq_true c5
          clear c5
          by_cases c6 : x11_1 < (a0.size : Int)
          · rw [if_pos c6] at H
            have c6b0 : decide (x11_1 < (a0.size : Int)) = true := decide_eq_true c6
            clear c6
            by_cases c8 : x11_1 < (a1.size : Int)
            · rw [if_pos c8] at H
              have c8b0 : decide (x11_1 < (a1.size : Int)) = true := decide_eq_true c8
              clear c8
              by_cases c10 : (bt a0 x11_1) < (bt a1 x11_1)
              · rw [if_pos c10] at H
                have c10b0 : decide ((bt a0 x11_1) < (bt a1 x11_1)) = true := decide_eq_true c10
                clear c10
                obtain rfl := Option.some.inj H
                have p7 : 0 ≤ (x11_1 : Int) := of_decide_eq_true (by first | (with_reducible assumption) | assumption)
                have q7 : x11_1 < (a0.size : Int) := of_decide_eq_true (by first | (with_reducible assumption) | assumption)
                have hx7 := bt_at a0 x11_1
                replace p7 := eq_true p7
                replace q7 := eq_true q7
                have p9 : 0 ≤ (x11_1 : Int) := of_decide_eq_true (by first | (with_reducible assumption) | assumption)
                have q9 : x11_1 < (a1.size : Int) := of_decide_eq_true (by first | (with_reducible assumption) | assumption)
                have hx9 := bt_at a1 x11_1
                replace p9 := eq_true p9
                replace q9 := eq_true q9
                go_wp2
                repeat (go_quiet (fail); try go_wp2)
                go_ret
                exact ⟨by first | rfl | (simp [errW_none, errW_some] <;> rfl) | (simp only [← hji3]; first | rfl | (simp [errW_none, errW_some] <;> rfl)) | (simp [*, errW_none, errW_some] <;> rfl), by repeat (first | (with_reducible first | exact HB.out | apply Drew.drewN | apply Drew.drew) | exact HB.out)⟩
              · rw [if_neg c10] at H
                have c10b0 : decide ((bt a0 x11_1) < (bt a1 x11_1)) = false := decide_eq_false c10
                clear c10
                by_cases c13 : (bt a0 x11_1) > (bt a1 x11_1)
                · rw [if_pos c13] at H
                  have c13b0 : decide ((bt a1 x11_1) < (bt a0 x11_1)) = true := decide_eq_true c13
                  clear c13
                  obtain rfl := Option.some.inj H
                  have p7 : 0 ≤ (x11_1 : Int) := of_decide_eq_true (by first | (with_reducible assumption) | assumption)
                  have q7 : x11_1 < (a0.size : Int) := of_decide_eq_true (by first | (with_reducible assumption) | assumption)
                  have hx7 := bt_at a0 x11_1
                  replace p7 := eq_true p7
                  replace q7 := eq_true q7
                  have p9 : 0 ≤ (x11_1 : Int) := of_decide_eq_true (by first | (with_reducible assumption) | assumption)
                  have q9 : x11_1 < (a1.size : Int) := of_decide_eq_true (by first | (with_reducible assumption) | assumption)
                  have hx9 := bt_at a1 x11_1
                  replace p9 := eq_true p9
                  replace q9 := eq_true q9
                  have p11 : 0 ≤ (x11_1 : Int) := of_decide_eq_true (by first | (with_reducible assumption) | assumption)
                  have q11 : x11_1 < (a0.size : Int) := of_decide_eq_true (by first | (with_reducible assumption) | assumption)
                  have hx11 := bt_at a0 x11_1
                  replace p11 := eq_true p11
                  replace q11 := eq_true q11
                  have p12 : 0 ≤ (x11_1 : Int) := of_decide_eq_true (by first | (with_reducible assumption) | assumption)
                  have q12 : x11_1 < (a1.size : Int) := of_decide_eq_true (by first | (with_reducible assumption) | assumption)
                  have hx12 := bt_at a1 x11_1
                  replace p12 := eq_true p12
                  replace q12 := eq_true q12
                  go_wp2
                  repeat (go_quiet (fail); try go_wp2)
                  go_ret
                  exact ⟨by first | rfl | (simp [errW_none, errW_some] <;> rfl) | (simp only [← hji3]; first | rfl | (simp [errW_none, errW_some] <;> rfl)) | (simp [*, errW_none, errW_some] <;> rfl), by repeat (first | (with_reducible first | exact HB.out | apply Drew.drewN | apply Drew.drew) | exact HB.out)⟩
                · rw [if_neg c13] at H
                  have c13b0 : decide ((bt a1 x11_1) < (bt a0 x11_1)) = false := decide_eq_false c13
                  clear c13
                  have H' := Aside0.mk H
                  clear H
                  have p7 : 0 ≤ (x11_1 : Int) := of_decide_eq_true (by first | (with_reducible assumption) | assumption)
                  have q7 : x11_1 < (a0.size : Int) := of_decide_eq_true (by first | (with_reducible assumption) | assumption)
                  have hx7 := bt_at a0 x11_1
                  replace p7 := eq_true p7
                  replace q7 := eq_true q7
                  have p9 : 0 ≤ (x11_1 : Int) := of_decide_eq_true (by first | (with_reducible assumption) | assumption)
                  have q9 : x11_1 < (a1.size : Int) := of_decide_eq_true (by first | (with_reducible assumption) | assumption)
                  have hx9 := bt_at a1 x11_1
                  replace p9 := eq_true p9
                  replace q9 := eq_true q9
                  have p11 : 0 ≤ (x11_1 : Int) := of_decide_eq_true (by first | (with_reducible assumption) | assumption)
                  have q11 : x11_1 < (a0.size : Int) := of_decide_eq_true (by first | (with_reducible assumption) | assumption)
                  have hx11 := bt_at a0 x11_1
                  replace p11 := eq_true p11
                  replace q11 := eq_true q11
                  have p12 : 0 ≤ (x11_1 : Int) := of_decide_eq_true (by first | (with_reducible assumption) | assumption)
                  have q12 : x11_1 < (a1.size : Int) := of_decide_eq_true (by first | (with_reducible assumption) | assumption)
                  have hx12 := bt_at a1 x11_1
                  replace p12 := eq_true p12
                  replace q12 := eq_true q12
                  go_wp2
                  repeat (go_quiet (fail); try go_wp2)
                  go_roundg k1
                  case measure => have := HK1.out; omega
                  case rel => exact ⟨(wrap64 (x11_1 + 1)), (by first | rfl | (simp; done) | (simp [*]; done)), H', ⟨by have := HK1.out; omega⟩, ⟨by repeat (first | (with_reducible first | exact HB.out | apply Drew.drewN | apply Drew.drew) | exact HB.out)⟩⟩
            · rw [if_neg c8] at H
              exact absurd H (by simp)
          · rw [if_neg c6] at H
            exact absurd H (by simp)
        · rw [if_neg c5] at H
          exact absurd H (by simp)
      · rw [if_neg c4] at H
        have c4b0 : decide (x11_1 < ji3) = false := decide_eq_false c4
        clear c4
        by_cases c14 : (a0.size : Int) < (a1.size : Int)
        · rw [if_pos c14] at H
          have c14b0 : decide ((a0.size : Int) < (a1.size : Int)) = true := decide_eq_true c14
          have c14b1 : decide (a0.size < a1.size) = true := decide_eq_true (Int.ofNat_lt.mp c14)
          clear c14
          obtain rfl := Option.some.inj H
          go_wp2
          repeat (go_quiet (fail); try go_wp2)
          go_ret
          exact ⟨by first | rfl | (simp [errW_none, errW_some] <;> rfl) | (simp only [← hji3]; first | rfl | (simp [errW_none, errW_some] <;> rfl)) | (simp [*, errW_none, errW_some] <;> rfl), by repeat (first | (with_reducible first | exact HB.out | apply Drew.drewN | apply Drew.drew) | exact HB.out)⟩
        · rw [if_neg c14] at H
          have c14b0 : decide ((a0.size : Int) < (a1.size : Int)) = false := decide_eq_false c14
          have c14b1 : decide (a0.size < a1.size) = false := decide_eq_false (fun h => c14 (Int.ofNat_lt.mpr h))
          clear c14
          by_cases c15 : (a0.size : Int) > (a1.size : Int)
          · rw [if_pos c15] at H
            have c15b0 : decide ((a1.size : Int) < (a0.size : Int)) = true := decide_eq_true c15
            have c15b1 : decide (a1.size < a0.size) = true := decide_eq_true (Int.ofNat_lt.mp c15)
            clear c15
            obtain rfl := Option.some.inj H
            go_wp2
            repeat (go_quiet (fail); try go_wp2)
            go_ret
            exact ⟨by first | rfl | (simp [errW_none, errW_some] <;> rfl) | (simp only [← hji3]; first | rfl | (simp [errW_none, errW_some] <;> rfl)) | (simp [*, errW_none, errW_some] <;> rfl), by repeat (first | (with_reducible first | exact HB.out | apply Drew.drewN | apply Drew.drew) | exact HB.out)⟩
          · rw [if_neg c15] at H
            have c15b0 : decide ((a1.size : Int) < (a0.size : Int)) = false := decide_eq_false c15
            have c15b1 : decide (a1.size < a0.size) = false := decide_eq_false (fun h => c15 (Int.ofNat_lt.mpr h))
            clear c15
            obtain rfl := Option.some.inj H
            go_wp2
            repeat (go_quiet (fail); try go_wp2)
            go_ret
            exact ⟨by first | rfl | (simp [errW_none, errW_some] <;> rfl) | (simp only [← hji3]; first | rfl | (simp [errW_none, errW_some] <;> rfl)) | (simp [*, errW_none, errW_some] <;> rfl), by repeat (first | (with_reducible first | exact HB.out | apply Drew.drewN | apply Drew.drew) | exact HB.out)⟩

end Go.Proofs.Ytbjlfenappnccaa.P

end
section
/- nums.Compare is the order of bytes: -1, 0 or 1, for strings of any size that may come in. -/
namespace Go.Proofs.Ytbjlfenappnccaa.P
open Go.RowKit Go.Proofs.YtbjlfenappnccaaW.PrintWords Go.Proofs.YtbjlfenappnccaaW.PrintLast

/-- The order of two lists of bytes, as a number. -/
def cmpL (a b : List UInt8) : Int := if Op.bytesLess a b = true then -1 else if Op.bytesLess b a = true then 1 else 0
theorem u8lt (x y : UInt8) : x < y ↔ x.toNat < y.toNat := UInt8.lt_iff_toNat_lt
theorem cmpL_cons (x y : UInt8) (a b : List UInt8) : cmpL (x :: a) (y :: b) = if (x.toNat : Int) < y.toNat then -1 else if (x.toNat : Int) > y.toNat then 1 else cmpL a b := by
  unfold cmpL
  simp only [Op.bytesLess]
  rcases Nat.lt_trichotomy x.toNat y.toNat with h | h | h
  · have h1 : x < y := (u8lt x y).2 h
    rw [if_pos (show (x.toNat : Int) < y.toNat by omega)]
    simp [h1]
  · have h1 : x = y := UInt8.toNat_inj.1 h
    subst h1
    have h2 : ¬ x < x := fun h' => by have := (u8lt _ _).1 h'; omega
    rw [if_neg (by omega), if_neg (by omega)]
    simp [h2]
  · have h1 : y < x := (u8lt y x).2 h
    have h2 : ¬ x < y := fun h' => by have := (u8lt _ _).1 h'; omega
    have h3 : ¬ x = y := fun h' => by subst h'; omega
    rw [if_neg (by omega), if_pos (show (x.toNat : Int) > y.toNat by omega)]
    simp [h1, h2, h3]
theorem cmpL_nil_left (b : List UInt8) : cmpL [] b = if b.length = 0 then 0 else -1 := by
  cases b <;> simp [cmpL, Op.bytesLess]
theorem cmpL_nil_right (a : List UInt8) : cmpL a [] = if a.length = 0 then 0 else 1 := by
  cases a <;> simp [cmpL, Op.bytesLess]
theorem bt_get (s : ByteArray) (i : Nat) (h : i < s.size) : bt s i = (s.data.toList[i]'(by simpa using h)).toNat := by
  unfold bt
  rw [dif_pos (by simpa using h)]
  rfl
theorem drop_cons (s : ByteArray) (i : Nat) (h : i < s.size) : s.data.toList.drop i = (s.data.toList[i]'(by simpa using h)) :: s.data.toList.drop (i + 1) :=
  List.drop_eq_getElem_cons (by simpa using h)

theorem nums_Compare_loop (a b : ByteArray) (ha : a.size ≤ 9223372036854775806) (d : Nat) : ∀ (k i : Nat), i + d = min a.size b.size → d < k →
    nums_Compare.l0 k a b (mn (a.size : Int) (b.size : Int)) i = some (cmpL (a.data.toList.drop i) (b.data.toList.drop i)) := by
  have hm : mn (a.size : Int) (b.size : Int) = ((min a.size b.size : Nat) : Int) := by unfold mn; split <;> omega
  rw [hm]
  induction d with
  | zero =>
    intro k i hi hk
    obtain ⟨k, rfl⟩ : ∃ m, k = m + 1 := ⟨k - 1, by omega⟩
    simp only [nums_Compare.l0]
    rw [if_neg (by omega)]
    rcases Nat.lt_trichotomy a.size b.size with h | h | h
    · rw [if_pos (by omega)]
      rw [List.drop_of_length_le (l := a.data.toList) (by simp; omega), cmpL_nil_left, if_neg (by simp; omega)]
    · rw [if_neg (by omega), if_neg (by omega)]
      rw [List.drop_of_length_le (l := a.data.toList) (by simp; omega), cmpL_nil_left, if_pos (by simp; omega)]
    · rw [if_neg (by omega), if_pos (by omega)]
      rw [List.drop_of_length_le (l := b.data.toList) (by simp; omega), cmpL_nil_right, if_neg (by simp; omega)]
  | succ d ih =>
    intro k i hi hk
    obtain ⟨k, rfl⟩ : ∃ m, k = m + 1 := ⟨k - 1, by omega⟩
    have h1 : i < a.size := by omega
    have h2 : i < b.size := by omega
    simp only [nums_Compare.l0]
    rw [if_pos (by omega), if_pos (by omega), if_pos (by omega), if_pos (by omega), bt_get a i h1, bt_get b i h2, drop_cons a i h1, drop_cons b i h2, cmpL_cons]
    have hw : wrap64 ((i : Int) + 1) = ((i + 1 : Nat) : Int) := by unfold wrap64; omega
    rw [hw, ih k (i + 1) (by omega) (by omega)]
    repeat' split
    all_goals first | rfl | omega

theorem nums_Compare_eq (a b : ByteArray) (ha : a.size ≤ 9223372036854775806) (k : Nat) (hk : a.size < k) : nums_Compare.f k a b = some (cmpL a.toList b.toList) := by
  unfold nums_Compare.f
  have := nums_Compare_loop a b ha (min a.size b.size) k 0 (by omega) (by omega)
  rw [ByteArray.toList_eq, ByteArray.toList_eq]
  simpa using this
end Go.Proofs.Ytbjlfenappnccaa.P

end
section
/- The order of bytes is an order; a sorted list's search. -/
namespace Go.Proofs.Ytbjlfenappnccaa.P
open Go.RowKit Go.Proofs.YtbjlfenappnccaaW.PrintWords Go.Proofs.YtbjlfenappnccaaW.PrintLast
set_option linter.unusedVariables false

theorem bl_nil_left (b : List UInt8) : Op.bytesLess [] b = !b.isEmpty := by cases b <;> rfl
theorem bl_nil_right (a : List UInt8) : Op.bytesLess a [] = false := by cases a <;> rfl
theorem bl_cons (x y : UInt8) (a b : List UInt8) : Op.bytesLess (x :: a) (y :: b) = true ↔ x.toNat < y.toNat ∨ (x.toNat = y.toNat ∧ Op.bytesLess a b = true) := by
  simp only [Op.bytesLess]
  rcases Nat.lt_trichotomy x.toNat y.toNat with h | h | h
  · have h1 : x < y := (u8lt x y).2 h
    simp [h1, h]
  · have h1 : x = y := UInt8.toNat_inj.1 h
    subst h1
    have h2 : ¬ x < x := fun h' => by have := (u8lt _ _).1 h'; omega
    simp [h2]
  · have h2 : ¬ x < y := fun h' => by have := (u8lt _ _).1 h'; omega
    have h3 : ¬ x = y := fun h' => by subst h'; omega
    simp [h2, h3]
    omega
theorem bl_asymm : ∀ a b : List UInt8, Op.bytesLess a b = true → Op.bytesLess b a = false := by
  intro a
  induction a with
  | nil => intro b _; exact bl_nil_right b
  | cons x a ih =>
    intro b h
    cases b with
    | nil => rw [bl_nil_right] at h; cases h
    | cons y b =>
      rw [bl_cons] at h
      rw [Bool.eq_false_iff]
      intro h2
      rw [bl_cons] at h2
      rcases h with h | ⟨h, h'⟩ <;> rcases h2 with h3 | ⟨h3, h3'⟩
      · omega
      · omega
      · omega
      · rw [ih b h'] at h3'
        cases h3'
theorem bl_false_cons (x y : UInt8) (a b : List UInt8) : Op.bytesLess (x :: a) (y :: b) = false ↔ y.toNat < x.toNat ∨ (x.toNat = y.toNat ∧ Op.bytesLess a b = false) := by
  rw [← Bool.not_eq_true, bl_cons, ← Bool.not_eq_true]
  constructor
  · intro h
    by_cases h1 : x.toNat < y.toNat
    · exact absurd (.inl h1) h
    · by_cases h2 : x.toNat = y.toNat
      · exact .inr ⟨h2, fun h3 => h (.inr ⟨h2, h3⟩)⟩
      · left; omega
  · rintro (h | ⟨h1, h2⟩) (h3 | ⟨h3, h4⟩)
    · omega
    · omega
    · omega
    · exact h2 h4
theorem bl_trans : ∀ a b c : List UInt8, Op.bytesLess b a = false → Op.bytesLess c b = false → Op.bytesLess c a = false := by
  intro a
  induction a with
  | nil => intro b c _ _; exact bl_nil_right c
  | cons x a ih =>
    intro b c h1 h2
    cases b with
    | nil => rw [bl_nil_left] at h1; cases h1
    | cons y b =>
      cases c with
      | nil => rw [bl_nil_left] at h2; cases h2
      | cons z c =>
        rw [bl_false_cons] at h1 h2 ⊢
        rcases h1 with h1 | ⟨h1, h1'⟩ <;> rcases h2 with h2 | ⟨h2, h2'⟩
        · left; omega
        · left; omega
        · left; omega
        · exact .inr ⟨by omega, ih b c h1' h2'⟩
theorem cmpL_le (a b : List UInt8) : cmpL a b ≤ 0 ↔ Op.bytesLess b a = false := by
  unfold cmpL
  by_cases h : Op.bytesLess a b = true
  · rw [if_pos h]
    exact ⟨fun _ => bl_asymm a b h, fun _ => by decide⟩
  · rw [if_neg h]
    by_cases h2 : Op.bytesLess b a = true
    · rw [if_pos h2, h2]
      exact ⟨fun h => absurd h (by decide), fun h => by cases h⟩
    · rw [if_neg h2]
      exact ⟨fun _ => by simpa using h2, fun _ => by decide⟩
theorem cmpL_trans {a b c : List UInt8} (h1 : cmpL a b ≤ 0) (h2 : cmpL b c ≤ 0) : cmpL a c ≤ 0 := (cmpL_le a c).2 (bl_trans a b c ((cmpL_le a b).1 h1) ((cmpL_le b c).1 h2))
theorem cmpL_swap (a b : List UInt8) : cmpL a b < 0 ↔ ¬ cmpL b a ≤ 0 := by
  rw [cmpL_le]
  unfold cmpL
  by_cases h : Op.bytesLess a b = true
  · rw [if_pos h]
    exact ⟨fun _ e => (by rw [e] at h; cases h), fun _ => by decide⟩
  · rw [if_neg h]
    have h' : Op.bytesLess a b = false := by simpa using h
    by_cases h2 : Op.bytesLess b a = true
    · rw [if_pos h2]
      exact ⟨fun e => absurd e (by decide), fun e => absurd h' e⟩
    · rw [if_neg h2]
      exact ⟨fun e => absurd e (by decide), fun e => absurd h' e⟩
end Go.Proofs.Ytbjlfenappnccaa.P

end
section
/- parts.Bounds' closure (the lower of two keys), and keys' order as sort.Slice asks it. -/
namespace Go.Proofs.Ytbjlfenappnccaa.P
open Go.RowKit Go.Proofs.YtbjlfenappnccaaW.PrintWords Go.Proofs.YtbjlfenappnccaaW.PrintLast Go.Proofs.YtbjlfenappnccaaW.PrintMore
set_option linter.unusedVariables false
set_option linter.unusedSimpArgs false

/-- a key that may be in a sample -/
abbrev Key := {b : ByteArray // b.size ≤ 1024}
instance : Inhabited Key := ⟨⟨ByteArray.empty, by decide⟩⟩
def keyV (x : Key) : Value := .string x.1
def ltK (x y : Key) : Bool := Op.bytesLess x.1.toList y.1.toList
theorem ltK_cmp (x y : Key) : ltK x y = decide (cmpL x.1.toList y.1.toList < 0) := by
  unfold ltK cmpL
  by_cases h : Op.bytesLess x.1.toList y.1.toList = true
  · rw [if_pos h, h]; rfl
  · rw [if_neg h]
    have h' : Op.bytesLess x.1.toList y.1.toList = false := by simpa using h
    rw [h']
    split <;> rfl
theorem bl_irrefl (a : List UInt8) : Op.bytesLess a a = false := by
  by_cases h : Op.bytesLess a a = true
  · exact bl_asymm a a h
  · simpa using h
theorem bl_lt_trans (a b c : List UInt8) (h1 : Op.bytesLess a b = true) (h2 : Op.bytesLess b c = true) : Op.bytesLess a c = true := by
  by_cases h : Op.bytesLess a c = true
  · exact h
  · have h' : Op.bytesLess a c = false := by simpa using h
    have h3 := bl_asymm b c h2
    have := bl_trans b c a h3 h'
    rw [this] at h1
    cases h1
theorem bl_eq : ∀ a b : List UInt8, Op.bytesLess a b = false → Op.bytesLess b a = false → a = b := by
  intro a
  induction a with
  | nil =>
    intro b h1 _
    rw [bl_nil_left] at h1
    cases b with
    | nil => rfl
    | cons y b => simp at h1
  | cons x a ih =>
    intro b h1 h2
    cases b with
    | nil => rw [bl_nil_left] at h2; simp at h2
    | cons y b =>
      rw [bl_false_cons] at h1 h2
      have e : x.toNat = y.toNat := by rcases h1 with h1 | ⟨h1, _⟩ <;> rcases h2 with h2 | ⟨h2, _⟩ <;> omega
      have h3 : Op.bytesLess a b = false := by rcases h1 with h1 | ⟨_, h1⟩; omega; exact h1
      have h4 : Op.bytesLess b a = false := by rcases h2 with h2 | ⟨_, h2⟩; omega; exact h2
      rw [ih b h3 h4, UInt8.toNat_inj.1 e]
open Go.Sort in
theorem swo_ltK : SWO ltK where
  irrefl x := bl_irrefl _
  trans x y z h1 h2 := bl_lt_trans _ _ _ h1 h2
  ntrans x y z h1 h2 := bl_trans _ _ _ h2 h1
theorem ltK_anti (x y : Key) (h1 : ltK x y = false) (h2 : ltK y x = false) : x = y := by
  have h := bl_eq _ _ h1 h2
  rw [ByteArray.toList_eq, ByteArray.toList_eq] at h
  apply Subtype.ext
  have : x.1.data = y.1.data := by
    apply Array.toList_inj.1
    exact h
  cases hx : x.1
  cases hy : y.1
  rw [hx, hy] at this
  simp only at this
  rw [this]

set_option maxHeartbeats 4000000 in
theorem less_strs (blk off c Bs size : Nat) (W : World) (G : Nat → Key) (hs : W.cell? ⟨Bs, 0, none⟩ = some (.slice (some ⟨blk, off, none⟩) size c))
    (hc : ∀ t, t < size → W.cell? ⟨blk, off + t, none⟩ = some (keyV (G t))) (i j : Nat) (hi : i < size) (hj : j < size) :
    Calls Try.prog 30 #[.int .i64 i, .int .i64 j, .pointer (some ⟨Bs, 0, none⟩)] W fun e w' => e = .returned (.bool (ltK (G i) (G j))) ∧ ∃ q, w' = W.drewN q := by
  have ci : W.cell? ⟨blk, off + i, none⟩ = some (.string (G i).1) := hc i hi
  have cj : W.cell? ⟨blk, off + j, none⟩ = some (.string (G j).1) := hc j hj
  have HR := Aside0.mk (ltK_cmp (G i) (G j))
  have HZ := Aside0.mk (fun (V : World) => nums_Compare.drew ((G i).1.size + 1) (G i).1 (G j).1 _ V (nums_Compare_eq (G i).1 (G j).1 (Nat.le_trans (G i).2 (by decide)) _ (Nat.lt_succ_self _)))
  clear hc
  generalize G i = x at *
  generalize G j = y at *
  generalize cmpL x.1.toList y.1.toList = cv at HR HZ
  go_enter Try.func30, Try.ntmps30
  go_wp2
  go_quiet (first | (go_at_call 19; exact Calls.quiet_of (HZ.out _)))
  go_wp2
  go_ret
  exact ⟨by rw [HR.out]; first | rfl | (simp; done), nq, rfl⟩
end Go.Proofs.Ytbjlfenappnccaa.P

end
section
/- sort.Slice at the keys of a sample, by the shelf's contract: the row ends sorted. -/
namespace Go.Proofs
open Go.Shelf
shelf_lay LaysGg.n6 Ggs 6 at Try as Try.sl6
end Go.Proofs

namespace Go.Proofs.Ytbjlfenappnccaa.P
open Go.Shelf Go.RowKit Go.Lib Go.Sort Go.Proofs.YtbjlfenappnccaaW.PrintWords Go.Proofs.YtbjlfenappnccaaW.PrintLast Go.Proofs.YtbjlfenappnccaaW.PrintMore
set_option linter.unusedVariables false
set_option linter.unusedSimpArgs false

/-- the keys in order -/
def leB (x y : ByteArray) : Bool := !Op.bytesLess y.toList x.toList
def sortB (l : List ByteArray) : List ByteArray := l.mergeSort leB
theorem sortB_length (l : List ByteArray) : (sortB l).length = l.length := List.length_mergeSort l
theorem sortB_perm (l : List ByteArray) : (sortB l).Perm l := List.mergeSort_perm _ _

noncomputable def siT : TypeInfo := (Try.prog.info? 24).get (by kernel_rfl)
noncomputable def siE : TypeInfo := (Try.prog.info? 9).get (by kernel_rfl)
theorem siK (n : Nat) (h2 : 2 ≤ n) : Lib.swapperK n siE 24 = 4 := by
  have a : siE.hasPointers = true := by kernel_rfl
  have b : siE.bytes = 16 := by kernel_rfl
  have c : (n == 0) = false := by simp; omega
  have d : (n == 1) = false := by simp; omega
  simp [Lib.swapperK, a, b, c, d]

/-- the keys of a list, each within its bound -/
def keysOf (l : List ByteArray) (h : ∀ b ∈ l, b.size ≤ 1024) : List Key := l.pmap (fun b hb => ⟨b, hb⟩) h
theorem keysOf_map (l : List ByteArray) (h : ∀ b ∈ l, b.size ≤ 1024) : (keysOf l h).map (fun x => x.1) = l := by
  unfold keysOf
  rw [List.map_pmap]
  simp
theorem keysOf_length (l : List ByteArray) (h : ∀ b ∈ l, b.size ≤ 1024) : (keysOf l h).length = l.length := by simp [keysOf]
theorem sortK_map (ks : List Key) : (ks.mergeSort fun x y => !ltK y x).map (fun x => x.1) = sortB (ks.map fun x => x.1) := by
  unfold sortB
  exact List.map_mergeSort (fun a _ b _ => rfl)

/-- the world that is left holds the row in its new order -/
theorem R_sorted {w : World} {base g n c q : Nat} {l L : List ByteArray} {os : Array Obj} (h : Kd.R Kd.string 9 w base (fun _ => True) (.slice (some ⟨g, 0, none⟩) n c) l) (hL : L.length = l.length) :
    Kd.R Kd.string 9 (grow ((w.drewN q).setCells g 0 (L.map Value.string)) os) base (fun _ => True) (.slice (some ⟨g, 0, none⟩) n c) L := by
  have ho := Kd.own_of_R h
  obtain ⟨hlen, hr⟩ := ho
  rcases hr with ⟨hr, _⟩ | ⟨g', cap, cur, hv, hb, hh, hn, hcap, hcs, htake⟩
  · cases hr
  injection hv with h1 h2 h3
  injection h1 with h1
  injection h1 with h1 _
  subst h1; subst h2; subst h3
  obtain ⟨cur', hc1, hc2, hc3⟩ := setCells_row (L.map Value.string) 0 (w.drewN q) cur hh (by simp; omega)
  refine Kd.R_of_own ⟨by simp [encs], .inr ⟨g, c, cur', by rw [hL], hb, ?_, by omega, hcap, by rw [hc2, hcs], ?_⟩⟩ (fun _ _ => trivial)
  · rw [heap_grow_old _ _ (blk_lt hc1)]
    exact hc1
  · rw [hc3]
    simp [encs]

set_option maxHeartbeats 4000000 in
theorem sort_two (w : World) (base g n c Bs : Nat) (l : List ByteArray) (hx : ∀ b ∈ l, b.size ≤ 1024) (hR : Kd.R Kd.string 9 w base (fun _ => True) (.slice (some ⟨g, 0, none⟩) n c) l) (h2 : 2 ≤ n) (hl : n ≤ 65536)
    (hs : w.cell? ⟨Bs, 0, none⟩ = some (.slice (some ⟨g, 0, none⟩) n c)) (hne : Bs ≠ g) (hB : Bs < w.heap.size) :
    Calls Try.prog 29 #[.iface 24 (.slice (some ⟨g, 0, none⟩) n c), .func (.func 30) #[] #[.pointer (some ⟨Bs, 0, none⟩)]] w fun e w' =>
      e = .returned (.tuple #[]) ∧ ∃ q os, w' = grow ((w.drewN q).setCells g 0 ((sortB l).map Value.string)) os := by
  have hn : n = l.length := (Kd.R_reads' hR).1
  obtain ⟨d, hd⟩ : ∃ d : Array Key, d = (keysOf l hx).toArray := ⟨_, rfl⟩
  have hdn : d.size = n := by rw [hd]; simp [keysOf_length, hn]
  have hdm : d.toList.map (fun x => x.1) = l := by rw [hd]; exact keysOf_map l hx
  have hH : Holds keyV w g 0 d := by
    intro j hj
    have hc := Kd.R_celln ByteArray.empty hR (j : Int) (by omega) (by omega)
    rw [Int.toNat_natCast] at hc
    have e : rdOf ByteArray.empty l (j : Int) = (d[j]!).1 := by
      unfold rdOf
      rw [Int.toNat_natCast, ← hdm, getElem!_pos d j hj, List.getD_eq_getElem?_getD, List.getElem?_map, List.getElem?_eq_getElem (by simpa using hj)]
      rfl
    rw [e] at hc
    rw [Nat.zero_add]
    exact hc
  have hb : g < w.heap.size := by
    obtain ⟨cells, hb⟩ := Kd.R_typed hR g rfl
    exact blk_lt hb
  have hless : LessReads Try.prog 30 #[.pointer (some ⟨Bs, 0, none⟩)] keyV ltK g 0 d.size w := by
    intro m os dk hsz i j hi hj
    have e : sortWorld keyV w g 0 m dk os = putRow keyV (grow (Sort.ahead w m) os) g 0 dk := by
      unfold sortWorld; rw [putRow_grow _ (Sort.ahead w m) _ g 0 _ hb]
    have hHg : Holds keyV (grow (Sort.ahead w m) os) g 0 d := holds_grow _ _ _ g 0 d hb (holds_ahead _ _ _ _ _ _ hH)
    refine less_strs g 0 c Bs d.size _ (fun t => dk[t]!) ?_ (fun t ht => ?_) i j hi hj
    · rw [e, cell?_putRow_other _ _ g 0 dk _ (Or.inl hne), cell?_grow _ _ _ (by show Bs < w.heap.size; exact hB), hdn]
      exact hs
    · rw [e]; exact cell?_putRow _ _ g 0 d dk hHg hsz t (by omega)
  have hS := Any.sort_Slice_sorted Try.sl6 24 9 siT siE (by kernel_rfl) (by kernel_rfl) (by kernel_rfl) (by kernel_rfl) 24 (fun _ => by kernel_rfl) (by kernel_rfl) (fun _ => by kernel_rfl) keyV (fun _ => rfl) ltK swo_ltK 30 _
    (enters_of Try.func30 (by kernel_rfl) rfl) g 0 c d (by omega) (by omega) 48 (by rw [siK _ (by omega)]; kernel_rfl) true
    (fun args W => run_callFunc_extern Try.func48 (by kernel_rfl) (by kernel_rfl) (by kernel_rfl) (e := Extern.ReflectliteSwapper.swap true) (by kernel_rfl) args W) _ hless hH hb
  rw [hdn] at hS
  change Calls Try.prog 29 _ _ _ at hS
  refine hS.mono ?_
  rintro e w' ⟨rfl, d', m, os, hp, hso, rfl⟩
  refine ⟨rfl, m, os, ?_⟩
  rw [← hdn] at hp hso
  have hu := sorted_unique_holds swo_ltK (fun x y h1 h2 => ltK_anti x y h1 h2) d d' hp hso
  have hu2 : d' = (d.toList.mergeSort fun x y => !ltK y x).toArray := by
    apply Array.toList_inj.1
    rw [hu]
  rw [hu2, sorted_world keyV w g 0 m d (d.toList.mergeSort fun x y => !ltK y x) os hH (by simp)]
  have e2 : (d.toList.mergeSort fun x y => !ltK y x).map keyV = (sortB l).map Value.string := by
    rw [← hdm, ← sortK_map, List.map_map]
    rfl
  rw [e2]

theorem sort_tiny (w : World) (A : Option Addr) (n c : Nat) (h1 : n ≤ 1) (lb : Array Value) :
    Calls Try.prog 29 #[.iface 24 (.slice A n c), .func (.func 30) #[] lb] w fun e w' => e = .returned (.tuple #[]) ∧ ∃ os, w' = grow w os := by
  have hK : Lib.swapperK n siE 24 = n + 1 := by
    rcases Nat.eq_zero_or_pos n with h | h
    · subst h; simp [Lib.swapperK]
    · obtain rfl : n = 1 := by omega
      simp [Lib.swapperK]
  have hS := Any.sort_Slice_tiny Try.sl6 24 9 siT siE (by kernel_rfl) (by kernel_rfl) (by kernel_rfl) (by kernel_rfl) 24 (fun _ => by kernel_rfl) A n c h1 (45 + n) (by
    rw [hK]
    rcases Nat.eq_zero_or_pos n with h | h
    · subst h; kernel_rfl
    · obtain rfl : n = 1 := by omega
      kernel_rfl) (.func 30) #[] lb w
  change Calls Try.prog 29 _ _ _ at hS
  exact hS

/-- sort.Slice at a sample's keys: whatever their number. -/
theorem sort_keys (w : World) (base n c Bs : Nat) (A : Option Addr) (l : List ByteArray) (hx : ∀ b ∈ l, b.size ≤ 1024) (hR : Kd.R Kd.string 9 w base (fun _ => True) (.slice A n c) l) (hl : n ≤ 65536)
    (hs : w.heap[Bs]? = some (.cells #[.slice A n c] 24 (0, 0))) :
    Calls Try.prog 29 #[.iface 24 (.slice A n c), .func (.func 30) #[] #[.pointer (some ⟨Bs, 0, none⟩)]] w fun e w' =>
      e = .returned (.tuple #[]) ∧ Kd.R Kd.string 9 w' base (fun _ => True) (.slice A n c) (sortB l) ∧ w'.heap[Bs]? = some (.cells #[.slice A n c] 24 (0, 0)) ∧
        (∀ w0 : World, Below base w0 w → base ≤ w.heap.size → Below base w0 w') ∧ w.heap.size ≤ w'.heap.size := by
  have hn : n = l.length := (Kd.R_reads' hR).1
  have hB : Bs < w.heap.size := blk_lt hs
  by_cases h2 : 2 ≤ n
  · obtain ⟨g, cap, hv, hbase, hg, cells, hcl⟩ := Kd.R_form hR (by omega)
    injection hv with hv1 hv2 hv3
    subst hv1
    have hne : Bs ≠ g := by
      rintro rfl
      rw [hcl] at hs
      injection hs with hs
      injection hs with _ hs
      cases hs
    refine (sort_two w base g n c Bs l hx hR h2 hl ((blk_cell hs 0).trans rfl) hne hB).mono ?_
    rintro e w' ⟨rfl, q, os, rfl⟩
    obtain ⟨f1, f2, f3, f4⟩ := setCells_same g ((sortB l).map Value.string) 0 (w.drewN q)
    have f4' : ((w.drewN q).setCells g 0 ((sortB l).map Value.string)).heap.size = w.heap.size := f4
    refine ⟨rfl, R_sorted hR (sortB_length l), ?_, ?_, ?_⟩
    · rw [heap_grow_old _ _ (by rw [f4']; exact hB), setCells_far _ _ _ hne]
      exact hs
    · intro w0 hb hbs
      refine ⟨f1.trans hb.os, ?_, ?_, ?_, ?_⟩
      · exact f2.trans hb.tape
      · exact f3.trans hb.output
      · have := hb.size; rw [size_grow, f4']; omega
      · intro k hk
        rw [heap_grow_old _ _ (by rw [f4']; omega), setCells_far _ _ _ (by omega)]
        exact hb.block k hk
    · rw [size_grow, f4']; omega
  · refine (sort_tiny w A n c (by omega) _).mono ?_
    rintro e w' ⟨rfl, os, rfl⟩
    have hm : sortB l = l := by
      unfold sortB
      match l, hn with
      | [], _ => simp
      | [x], _ => simp
      | x :: y :: r, hn => simp at hn; omega
    have hbl : Below w.heap.size w (grow w os) := ⟨rfl, rfl, rfl, by rw [size_grow]; omega, fun k hk => heap_grow_old w os hk⟩
    refine ⟨rfl, ?_, ?_, ?_, ?_⟩
    · rw [hm]
      exact Kd.R_below hR hbl
    · rw [heap_grow_old w os hB]; exact hs
    · intro w0 hb hbs
      exact ⟨hb.os, hb.tape, hb.output, by have := hb.size; rw [size_grow]; omega, fun k hk => (heap_grow_old w os (by omega)).trans (hb.block k hk)⟩
    · rw [size_grow]; omega
end Go.Proofs.Ytbjlfenappnccaa.P

end
section
/- The sums of layer 1 as plain numbers: one step of the register, its powers, what bytes make of it; no program in sight. -/
namespace Go.Proofs.Ytbjlfenappnccaa.Crc
def poly : Nat := 0x82F63B78
def step (x : Nat) : Nat := if x % 2 = 1 then (x / 2) ^^^ poly else x / 2

def Lin (f : Nat → Nat) : Prop := ∀ x y, f (x ^^^ y) = f x ^^^ f y

theorem div2_xor (x y : Nat) : (x ^^^ y) / 2 = (x / 2) ^^^ (y / 2) := by
  apply Nat.eq_of_testBit_eq; intro i
  simp [Nat.testBit_xor, Nat.testBit_div_two]

theorem mod2_xor (x y : Nat) : (x ^^^ y) % 2 = (x % 2 + y % 2) % 2 := by
  have h : (x ^^^ y).testBit 0 = (x.testBit 0 != y.testBit 0) := Nat.testBit_xor ..
  simp only [Nat.testBit_zero] at h
  rcases Nat.mod_two_eq_zero_or_one x with hx | hx <;> rcases Nat.mod_two_eq_zero_or_one y with hy | hy <;> rcases Nat.mod_two_eq_zero_or_one (x ^^^ y) with hz | hz <;> simp [hx, hy, hz] at h ⊢

theorem step_lin : Lin step := by
  intro x y
  unfold step
  rw [div2_xor, mod2_xor]
  rcases Nat.mod_two_eq_zero_or_one x with hx | hx <;> rcases Nat.mod_two_eq_zero_or_one y with hy | hy <;> simp [hx, hy]
  · rw [Nat.xor_assoc]
  · rw [Nat.xor_assoc, Nat.xor_comm (y/2), ← Nat.xor_assoc]
  · rw [show x / 2 ^^^ poly ^^^ (y / 2 ^^^ poly) = (x/2 ^^^ y/2) ^^^ (poly ^^^ poly) from by
      apply Nat.eq_of_testBit_eq; intro i; simp [Nat.testBit_xor]; cases (x/2).testBit i <;> cases (y/2).testBit i <;> cases poly.testBit i <;> rfl]
    simp

theorem Lin.zero {f} (h : Lin f) : f 0 = 0 := by
  have := h 0 0
  simpa using this

theorem Lin.comp {f g} (hf : Lin f) (hg : Lin g) : Lin (fun x => f (g x)) := fun x y => by
  show f (g (x ^^^ y)) = _
  rw [hg, hf]

theorem xor4 (a b c d : Nat) : (a ^^^ b) ^^^ (c ^^^ d) = (a ^^^ c) ^^^ (b ^^^ d) := by
  rw [Nat.xor_assoc, Nat.xor_assoc, ← Nat.xor_assoc b, Nat.xor_comm b c, Nat.xor_assoc c]

theorem Lin.xor {f g} (hf : Lin f) (hg : Lin g) : Lin (fun x => f x ^^^ g x) := fun x y => by
  show f (x ^^^ y) ^^^ g (x ^^^ y) = _
  rw [hf, hg, xor4]

def pw (f : Nat → Nat) : Nat → Nat → Nat
  | 0, x => x
  | k + 1, x => f (pw f k x)

theorem Lin.pw {f} (hf : Lin f) (k : Nat) : Lin (pw f k) := by
  induction k with
  | zero => intro x y; rfl
  | succ k ih => exact Lin.comp (f := f) (g := Go.Proofs.Ytbjlfenappnccaa.Crc.pw f k) hf ih

theorem pw_add (f : Nat → Nat) (a b x : Nat) : pw f (a + b) x = pw f a (pw f b x) := by
  induction a with
  | zero => rw [Nat.zero_add]; rfl
  | succ a ih => rw [Nat.succ_add]; show f _ = f _; rw [ih]

theorem pw_succ' (f : Nat → Nat) (k x : Nat) : pw f (k + 1) x = pw f k (f x) := pw_add f k 1 x

/-- a number below 2^(n+1) by its highest bit -/
theorem top_bit (n x : Nat) (h : x < 2 ^ (n + 1)) : x < 2 ^ n ∨ ∃ y, y < 2 ^ n ∧ x = y ^^^ 2 ^ n := by
  by_cases hx : x < 2 ^ n
  · exact .inl hx
  · refine .inr ⟨x - 2 ^ n, by rw [Nat.pow_succ] at h; omega, ?_⟩
    have hy : x - 2 ^ n < 2 ^ n := by rw [Nat.pow_succ] at h; omega
    have := Nat.two_pow_add_eq_or_of_lt hy 1
    apply Nat.eq_of_testBit_eq; intro i
    have e : x = 2 ^ n + (x - 2 ^ n) := by omega
    rw [Nat.testBit_xor, Nat.testBit_two_pow]
    by_cases hi : n = i
    · subst hi
      rw [e]
      simp only [Nat.testBit_two_pow_add_eq]
      simp [Nat.testBit_lt_two_pow hy]
    · by_cases hlt : i < n
      · rw [e]; rw [Nat.testBit_two_pow_add_gt hlt]; simp [hi]
      · have hgt : n < i := by omega
        have h1 : x.testBit i = false := Nat.testBit_lt_two_pow (Nat.lt_of_lt_of_le h (Nat.pow_le_pow_right (by decide) hgt))
        have h2 : (x - 2 ^ n).testBit i = false := Nat.testBit_lt_two_pow (Nat.lt_of_lt_of_le hy (Nat.pow_le_pow_right (by decide) (by omega)))
        rw [h1, h2]; simp [hi]

theorem lin_ext {f g : Nat → Nat} (hf : Lin f) (hg : Lin g) (n : Nat) (h : ∀ i, i < n → f (2 ^ i) = g (2 ^ i)) : ∀ x, x < 2 ^ n → f x = g x := by
  induction n with
  | zero => intro x hx; obtain rfl : x = 0 := by simp at hx; exact hx
            rw [hf.zero, hg.zero]
  | succ n ih =>
    intro x hx
    have ih' := ih (fun i hi => h i (by omega))
    rcases top_bit n x hx with h1 | ⟨y, hy, rfl⟩
    · exact ih' x h1
    · rw [hf, hg, ih' y hy, h n (by omega)]

theorem poly_lt : poly < 2 ^ 32 := by decide
theorem step_lt {x : Nat} (h : x < 2 ^ 32) : step x < 2 ^ 32 := by
  unfold step; split
  · exact Nat.xor_lt_two_pow (by omega) poly_lt
  · omega
theorem pw_step_lt {x : Nat} (h : x < 2 ^ 32) (k : Nat) : pw step k x < 2 ^ 32 := by
  induction k with
  | zero => exact h
  | succ k ih => exact step_lt ih


/-- what times adds up, in n rounds -/
def T : Nat → Nat → Nat → Nat
  | 0, _, _ => 0
  | n + 1, a, b => (if b.testBit 31 then a else 0) ^^^ T n (step a) (b * 2 % 2 ^ 32)

theorem shl_xor (b c : Nat) : (b ^^^ c) * 2 % 2 ^ 32 = (b * 2 % 2 ^ 32) ^^^ (c * 2 % 2 ^ 32) := by
  apply Nat.eq_of_testBit_eq; intro i
  have e : ∀ x : Nat, x * 2 = x <<< 1 := fun x => by rw [Nat.shiftLeft_eq]
  rw [e, e, e]
  simp only [Nat.testBit_xor, Nat.testBit_mod_two_pow, Nat.testBit_shiftLeft]
  by_cases h : i < 32 <;> by_cases h1 : i ≥ 1 <;> simp [h, h1]

theorem T_lin_b (n a : Nat) : Lin (T n a) := by
  induction n generalizing a with
  | zero => intro x y; simp [T]
  | succ n ih =>
    intro x y
    simp only [T]
    rw [shl_xor, ih, Nat.testBit_xor, ← xor4]
    congr 1
    cases x.testBit 31 <;> cases y.testBit 31 <;> simp

theorem T_lin_a (n b : Nat) : Lin (fun a => T n a b) := by
  induction n generalizing b with
  | zero => intro x y; simp [T]
  | succ n ih =>
    intro x y
    simp only [T]
    rw [step_lin x y, show T n (step x ^^^ step y) (b * 2 % 2 ^ 32) = T n (step x) (b * 2 % 2 ^ 32) ^^^ T n (step y) (b * 2 % 2 ^ 32) from ih (b * 2 % 2 ^ 32) (step x) (step y), ← xor4]
    congr 1
    cases b.testBit 31 <;> simp

theorem T_zero (n a : Nat) : T n a 0 = 0 := (T_lin_b n a).zero

theorem T_one (a : Nat) : T 32 a (2 ^ 31) = a := by
  show (if (2 ^ 31 : Nat).testBit 31 then a else 0) ^^^ T 31 (step a) (2 ^ 31 * 2 % 2 ^ 32) = a
  rw [show (2 ^ 31 * 2 % 2 ^ 32 : Nat) = 0 from by decide, T_zero, show (2 ^ 31 : Nat).testBit 31 = true from by decide]
  simp

theorem T_step_basis : ∀ i, i < 32 → ∀ j, j < 32 → T 32 (2 ^ j) (step (2 ^ i)) = step (T 32 (2 ^ j) (2 ^ i)) := by
  decide +kernel

theorem T_step {a b : Nat} (ha : a < 2 ^ 32) (hb : b < 2 ^ 32) : T 32 a (step b) = step (T 32 a b) := by
  refine lin_ext (f := fun b => T 32 a (step b)) (g := fun b => step (T 32 a b)) (Lin.comp (T_lin_b 32 a) step_lin) (Lin.comp step_lin (T_lin_b 32 a)) 32 ?_ b hb
  intro i hi
  refine lin_ext (f := fun a => T 32 a (step (2 ^ i))) (g := fun a => step (T 32 a (2 ^ i))) (T_lin_a 32 _) (Lin.comp step_lin (T_lin_a 32 _)) 32 ?_ a ha
  exact fun j hj => T_step_basis i hi j hj

theorem T_pw {a : Nat} (ha : a < 2 ^ 32) (k : Nat) : T 32 a (pw step k (2 ^ 31)) = pw step k a := by
  induction k with
  | zero => exact T_one a
  | succ k ih => show T 32 a (step _) = step _; rw [T_step ha (pw_step_lt (by decide) k), ih]

/-- crc.times, by rounds: a, b, p -/
def tm : Nat → Nat → Nat → Nat → Nat
  | 0, _, _, p => p
  | n + 1, a, b, p => tm n (step a) (b * 2 % 2 ^ 32) (if b / 2 ^ 31 = 1 then p ^^^ a else p)

theorem tm_T (n a b p : Nat) (hb : b < 2 ^ 32) : tm n a b p = p ^^^ T n a b := by
  induction n generalizing a b p with
  | zero => simp [tm, T]
  | succ n ih =>
    simp only [tm, T]
    rw [ih _ _ _ (Nat.mod_lt _ (by decide))]
    have e : b.testBit 31 = decide (b / 2 ^ 31 = 1) := by
      rw [Nat.testBit_eq_decide_div_mod_eq]
      have : b / 2 ^ 31 < 2 := by omega
      congr 1; rw [Nat.mod_eq_of_lt this]
    rw [e]
    by_cases h : b / 2 ^ 31 = 1 <;> simp [h, Nat.xor_assoc]
theorem tm_pw {a : Nat} (ha : a < 2 ^ 32) (k : Nat) : tm 32 a (pw step k (2 ^ 31)) 0 = pw step k a := by
  rw [tm_T _ _ _ _ (pw_step_lt (by decide) k), T_pw ha]; simp

theorem tm_zero (n a p : Nat) : tm n a 0 p = p := by
  rw [tm_T _ _ _ _ (by decide), T_zero]; simp

/-- step on an even number -/
theorem step_even (z : Nat) : step (2 * z) = z := by unfold step; rw [if_neg (by omega)]; omega

theorem pw_even (k z : Nat) : pw step k (2 ^ k * z) = z := by
  induction k generalizing z with
  | zero => simp [pw]
  | succ k ih =>
    rw [pw_succ', show 2 ^ (k + 1) * z = 2 * (2 ^ k * z) from by rw [Nat.pow_succ]; ac_rfl, step_even, ih]

theorem split16 (x : Nat) : x = (16 * (x / 16)) ^^^ (x % 16) := by
  apply Nat.eq_of_testBit_eq; intro i
  have e : 16 * (x / 16) = (x >>> 4) <<< 4 := by rw [Nat.shiftLeft_eq, Nat.shiftRight_eq_div_pow]; omega
  rw [Nat.testBit_xor, e, Nat.testBit_shiftLeft, Nat.testBit_shiftRight, show x % 16 = x % 2 ^ 4 from rfl, Nat.testBit_mod_two_pow]
  by_cases h : i < 4
  · simp [h, show ¬ 4 ≤ i from by omega]
  · have : i ≥ 4 := by omega
    simp [h, this]

/-- half a byte by the table -/
theorem half (x : Nat) : pw step 4 x = (x / 16) ^^^ pw step 4 (x % 16) := by
  conv => lhs; rw [split16 x]
  rw [(step_lin.pw 4), show 16 * (x / 16) = 2 ^ 4 * (x / 16) from rfl, pw_even]

theorem byte_two (x : Nat) : pw step 8 x = ((x / 16 ^^^ pw step 4 (x % 16)) / 16) ^^^ pw step 4 ((x / 16 ^^^ pw step 4 (x % 16)) % 16) := by
  rw [← half x, ← half, ← pw_add]

/-- what bytes make of a register -/
def byte (x c : Nat) : Nat := pw step 8 (x ^^^ c)
def run (x : Nat) (l : List Nat) : Nat := l.foldl byte x
theorem run_nil (x : Nat) : run x [] = x := by unfold run; rw [List.foldl_nil]
theorem run_cons (x c : Nat) (l : List Nat) : run x (c :: l) = run (byte x c) l := by unfold run; rw [List.foldl_cons]
theorem run_append (x : Nat) (l m : List Nat) : run x (l ++ m) = run (run x l) m := by
  unfold run; rw [List.foldl_append]
def mask : Nat := 4294967295
def ext (s : Nat) (l : List Nat) : Nat := run (s ^^^ mask) l ^^^ mask

/-- bytes as one number, the lowest first -/
def le : List Nat → Nat
  | [] => 0
  | c :: l => c ^^^ (2 ^ 8 * le l)

theorem run_le (x : Nat) (l : List Nat) : run x l = pw step (8 * l.length) (x ^^^ le l) := by
  induction l generalizing x with
  | nil => simp [run_nil, le, pw]
  | cons c l ih =>
    rw [run_cons, ih, byte, List.length_cons, show 8 * (l.length + 1) = 8 * l.length + 8 from by omega, pw_add]
    congr 1
    rw [le, ← Nat.xor_assoc, (step_lin.pw 8) (x ^^^ c) (2 ^ 8 * le l), pw_even 8]

theorem run_xor (x d : Nat) (l : List Nat) : run (x ^^^ d) l = run x l ^^^ pw step (8 * l.length) d := by
  rw [run_le, run_le, ← (step_lin.pw _)]; congr 1; rw [Nat.xor_assoc, Nat.xor_comm d, ← Nat.xor_assoc]

theorem xx (a b : Nat) : a ^^^ b ^^^ b = a := by rw [Nat.xor_assoc]; simp

/-- the sum of a whole out of its parts -/
theorem ext_append (s : Nat) (l m : List Nat) : ext s (l ++ m) = ext (ext s l) m := by
  unfold ext; rw [run_append, xx]

theorem ext_join (l m : List Nat) : ext 0 (l ++ m) = pw step (8 * m.length) (ext 0 l) ^^^ ext 0 m := by
  rw [ext_append]
  show ext (ext 0 l) m = _
  generalize ext 0 l = s
  unfold ext
  rw [Nat.zero_xor, Nat.xor_comm s mask, run_xor, Nat.xor_comm (run mask m), Nat.xor_assoc]

/-- step loses nothing -/
theorem step_inj {x y : Nat} (hx : x < 2 ^ 32) (hy : y < 2 ^ 32) (h : step x = step y) : x = y := by
  have key : ∀ z, z < 2 ^ 32 → step z = 0 → z = 0 := by
    intro z hz h0
    unfold step at h0
    split at h0
    · have : z / 2 = poly := by
        have := congrArg (· ^^^ poly) h0
        simpa [xx] using this
      unfold poly at this; omega
    · omega
  have h1 : step (x ^^^ y) = 0 := by rw [step_lin, h]; simp
  have h2 := key _ (Nat.xor_lt_two_pow hx hy) h1
  have := congrArg (· ^^^ y) h2
  simpa [xx] using this

theorem pw_inj {x y : Nat} (k : Nat) (hx : x < 2 ^ 32) (hy : y < 2 ^ 32) (h : pw step k x = pw step k y) : x = y := by
  induction k with
  | zero => exact h
  | succ k ih => exact ih (step_inj (pw_step_lt hx k) (pw_step_lt hy k) h)
end Go.Proofs.Ytbjlfenappnccaa.Crc

end
section
/- crc.Extend: what bytes make of a register, by the table of half bytes; contracts by hand. -/
namespace Go.Proofs.Ytbjlfenappnccaa.Hand
open Go.RowKit Go.Proofs.YtbjlfenappnccaaW.PrintWords Go.Proofs.YtbjlfenappnccaaW.PrintLast Go.Proofs.Ytbjlfenappnccaa.P
set_option linter.unusedVariables false
set_option linter.unusedSimpArgs false

theorem b_and1 (x : Nat) (hx : x < 2 ^ 32) : Go.bits .and .u32 (x : Int) 1 = ((x % 2 : Nat) : Int) := by
  have := u32_and_nat x 1 (by omega) (by omega)
  rw [Nat.and_one_is_mod] at this
  exact this
theorem b_and15 (x : Nat) (hx : x < 2 ^ 32) : Go.bits .and .u32 (x : Int) 15 = ((x % 16 : Nat) : Int) := by
  have := u32_and_nat x 15 (by omega) (by omega)
  rw [show (15 : Nat) = 2 ^ 4 - 1 from rfl, Nat.and_two_pow_sub_one_eq_mod] at this
  exact this
theorem b_xor (x y : Nat) (hx : x < 2 ^ 32) (hy : y < 2 ^ 32) : Go.bits .xor .u32 (x : Int) (y : Int) = ((x ^^^ y : Nat) : Int) := u32_xor_nat x y (by omega) (by omega)

set_option maxHeartbeats 400000 in
theorem step_any (x : Nat) (hx : x < 2 ^ 32) (w : World) : Calls Try.prog 64 #[.int .u32 (x : Int)] w fun e w' => e = .returned (.int .u32 (Crc.step x : Nat)) ∧ w = w' := by
  have hx' : (x : Int) < 4294967296 := by omega
  have h1 := b_and1 x hx
  rcases Nat.mod_two_eq_zero_or_one x with h | h
  · have hb : (Go.bits .and .u32 (x : Int) 1 == 1) = false := by rw [h1, h]; rfl
    have hs : Crc.step x = x / 2 := by unfold Crc.step; rw [if_neg (by omega)]
    have HS := Aside0.mk hs
    clear h1 hs h hx
    go_enter Try.func64, Try.ntmps64
    go_wp2
    go_ret
    exact ⟨by rw [HS.out]; simp, rfl⟩
  · have hb : (Go.bits .and .u32 (x : Int) 1 == 1) = true := by rw [h1, h]; rfl
    have hs : Crc.step x = x / 2 ^^^ Crc.poly := by unfold Crc.step; rw [if_pos h]
    have hxor := b_xor (x / 2) Crc.poly (by omega) Crc.poly_lt
    have HS := Aside0.mk hs
    have HX := Aside0.mk hxor
    clear h1 hs h hx hxor
    go_enter Try.func64, Try.ntmps64
    go_wp2
    go_ret
    refine ⟨?_, rfl⟩
    rw [HS.out, ← HX.out]
    rfl

def tab (j : Nat) : Nat := Crc.pw Crc.step 4 j
theorem tab_lt (j : Nat) (h : j < 16) : tab j < 2 ^ 32 := Crc.pw_step_lt (by omega) 4
/-- the table, i of its places filled -/
def tcells (i : Nat) : Array Value := ((List.range 16).map fun j => Value.int .u32 (if j < i then (tab j : Nat) else 0 : Int)).toArray
theorem tcells_size (i : Nat) : (tcells i).size = 16 := by simp [tcells]
theorem tcells_get (i j : Nat) (h : j < 16) : (tcells i)[j]? = some (Value.int .u32 (if j < i then (tab j : Nat) else 0 : Int)) := by
  simp [tcells, h]
theorem tcells_set (i : Nat) (h : i < 16) : (tcells i).setIfInBounds i (Value.int .u32 (tab i : Nat)) = tcells (i + 1) := by
  apply Array.ext_getElem?
  intro j
  rw [Array.getElem?_setIfInBounds]
  by_cases hj : j < 16
  · rw [tcells_get _ _ hj, tcells_get _ _ hj]
    by_cases e : i = j
    · subst e; simp [tcells_size, h]
    · simp only [if_neg e]
      by_cases h2 : j < i
      · rw [if_pos h2, if_pos (by omega)]
      · rw [if_neg h2, if_neg (by omega)]
  · have : ∀ k, (tcells k)[j]? = none := fun k => by rw [Array.getElem?_eq_none]; rw [tcells_size]; omega
    rw [this, this]
    split
    · omega
    · rfl
theorem tcells_zero : tcells 0 = #[.int .u32 0, .int .u32 0, .int .u32 0, .int .u32 0, .int .u32 0, .int .u32 0, .int .u32 0, .int .u32 0, .int .u32 0, .int .u32 0, .int .u32 0, .int .u32 0, .int .u32 0, .int .u32 0, .int .u32 0, .int .u32 0] := by
  simp [tcells, List.range, List.range.loop]
def tagg : Value := .agg (tcells 16)

theorem tcells_one : (tcells 16).all (·.oneCell') = true := by
  simp [tcells, Value.oneCell']
theorem below_setRow {B : Nat} {w W : World} (h : Below B w W) {g : Nat} (hg : B ≤ g) (cs : Array Value) : Below B w (W.setRow g cs) :=
  ⟨h.os, h.tape, h.output, by rw [size_setRow]; exact h.size, fun i hi => (setRow_other W g i cs (by omega)).trans (h.block i hi)⟩
theorem info61 : (Try.prog.info? 67).map (·.size) = some (tcells 16).size := by rw [tcells_size]; kernel_rfl
set_option maxHeartbeats 1000000 in
theorem sums_any (w : World) : Calls Try.prog 42 #[] w fun e w' => e = .returned tagg ∧ Below w.heap.size w w' := by
  go_enter Try.func42, Try.ntmps42
  go_wp2_with fail
  rw [← tcells_zero]
  go_loopw [4] (fun v wr => ∃ i : Nat, i ≤ 16 ∧ v = .int .i64 i ∧ wr.heap[w.heap.size]? = some (.cells (tcells 0) 67 (0, 0)) ∧ wr.heap[w.heap.size + 1]? = some (.cells (tcells i) 67 (0, 0)) ∧ Aside0 (Below w.heap.size w wr)) (fun v _ => 16 - (intOf v).toNat)
  case atStart => exact ⟨0, by omega, rfl, heap_alloc2_old w _ _, heap_alloc2_new w _ _, ⟨((Below.refl _ _).alloc (Nat.le_refl _) _).alloc (by simp) _⟩⟩
  case round =>
    obtain ⟨i, hi, rfl, hb0, hb1, hB⟩ := hrel
    by_cases hlt : i < 16
    · have ht := tab_lt i hlt
      have hcell : wr.cell? ⟨w.heap.size + 1, i, none⟩ = some (.int .u32 0) := by
        rw [cell_of_row wr _ _ _ _ _ hb1, tcells_get _ _ hlt, if_neg (by omega)]
      have hfr := frozen_of_row wr (w.heap.size + 1) i _ _ hb1
      have hn1 := heap_setCell_same wr (w.heap.size + 1) i _ _ (.int .u32 (tab i : Nat)) hb1
      rw [tcells_set i hlt] at hn1
      have hn0 := (heap_setCell_other wr ⟨w.heap.size + 1, i, none⟩ w.heap.size (.int .u32 (tab i : Nat)) (by simp)).trans hb0
      have hBn : Aside0 (Below w.heap.size w (wr.setCell ⟨w.heap.size + 1, i, none⟩ (.int .u32 (tab i : Nat)))) := ⟨hB.out.setCell (by simp) _⟩
      have HN1 := Aside0.mk hn1
      have HN0 := Aside0.mk hn0
      have HT := Aside0.mk ht
      clear hn1 hn0 hb0 hb1 ht
      have hd16 : decide ((i : Int) < 16) = true := by simp; omega
      have hw32 : IntKind.u32.wrap (i : Int) = i := by rw [IntKind.wrap_u32]; omega
      go_wp2_with fail
      go_loop [3, 9] (fun x k => ∃ n : Nat, n ≤ 4 ∧ k = .int .i64 n ∧ x = .int .u32 (Crc.pw Crc.step n i : Nat)) (fun _ k => 4 - (intOf k).toNat)
      case atStart => exact ⟨0, by omega, rfl, rfl⟩
      case round =>
        obtain ⟨n, hn, rfl, rfl⟩ := hrel
        by_cases hl4 : n < 4
        · have hs := Crc.pw_step_lt (x := i) (by omega) n
          go_wp2_with (go_at_call 64; refine (step_any _ hs _).mono ?_; rintro e w' ⟨rfl, rfl⟩)
          go_round
          case rel => exact ⟨n + 1, by omega, by go_num, rfl⟩
          case measure => simp [intOf]; omega
        · obtain rfl : n = 4 := by omega
          go_wp2_with fail
          go_roundw
          case rel => exact ⟨i + 1, by omega, by go_num, HN0.out, HN1.out, hBn⟩
          case measure => simp [intOf]; omega
    · obtain rfl : i = 16 := by omega
      have hfin := setRow_heap wr w.heap.size _ (tcells 16) _ _ hb0
      have hsz : (tcells 0).size = (tcells 16).size := by rw [tcells_size, tcells_size]
      have hone : (tcells 16).all (·.oneCell') = true := tcells_one
      have hBf : Aside0 (Below w.heap.size w (wr.setRow w.heap.size (tcells 16))) := ⟨below_setRow hB.out (Nat.le_refl _) _⟩
      have HF := Aside0.mk hfin
      clear hfin
      go_wp2_with (first | (refine wpList_load_row rfl 67 _ rfl (w.heap.size + 1) rfl 67 _ _ _ hb1 Try.underlying67 rfl info61 ?_) | (refine wpList_store_row rfl 67 _ _ rfl w.heap.size (tcells 16) rfl rfl 67 _ hb0 info61 hsz hone ?_))
      refine bodyPost_ret (results_cell_row rfl _ _ w.heap.size 67 _ _ _ rfl HF.out Try.underlying67 rfl info61) rfl ⟨rfl, hBf.out⟩

/-- a number as a register has it -/
def n32 (z : Int) : Nat := (z % 4294967296).toNat
theorem n32_lt (z : Int) : n32 z < 2 ^ 32 := by unfold n32; omega
theorem n32_nat (n : Nat) (h : n < 2 ^ 32) : n32 (n : Int) = n := by unfold n32; omega
theorem wrap_u32_eq (z : Int) : IntKind.u32.wrap z = (n32 z : Int) := by rw [IntKind.wrap_u32]; unfold n32; omega
theorem bits_xor_any (a b : Int) : Go.bits .xor .u32 a b = ((n32 a ^^^ n32 b : Nat) : Int) := by
  have h : ∀ z : Int, (BitVec.ofInt 32 z).toNat = n32 z := fun z => by rw [BitVec.toNat_ofInt]; unfold n32; omega
  have hx : n32 a ^^^ n32 b < 2 ^ 32 := Nat.xor_lt_two_pow (n32_lt a) (n32_lt b)
  show IntKind.u32.wrap ((BitVec.ofInt 32 a ^^^ BitVec.ofInt 32 b).toNat : Int) = _
  rw [BitVec.toNat_xor, h, h, IntKind.wrap_u32]
  omega
theorem run_lt (x : Nat) (l : List Nat) (hx : x < 2 ^ 32) (hl : ∀ c ∈ l, c < 2 ^ 32) : Crc.run x l < 2 ^ 32 := by
  induction l generalizing x with
  | nil => rw [Crc.run_nil]; exact hx
  | cons c l ih =>
    rw [Crc.run_cons]
    exact ih _ (Crc.pw_step_lt (Nat.xor_lt_two_pow hx (hl c (by simp))) 8) (fun d hd => hl d (by simp [hd]))
/-- what crc.Extend answers -/
def extI (s : Int) (l : List Int) : Int := (Crc.ext (n32 s) (l.map n32) : Nat)
def crc_Extend.f (a0 : Int) (l1 : List Int) : Option Int := some (extI a0 l1)
/-- the register behind j bytes -/
def reg (s : Int) (l : List Int) (j : Nat) : Nat := Crc.run (n32 s ^^^ Crc.mask) ((l.take j).map n32)
theorem mask_lt : Crc.mask < 2 ^ 32 := by decide
theorem reg_lt (s : Int) (l : List Int) (j : Nat) : reg s l j < 2 ^ 32 :=
  run_lt _ _ (Nat.xor_lt_two_pow (n32_lt s) mask_lt) (fun c hc => by obtain ⟨z, _, rfl⟩ := List.mem_map.1 hc; exact n32_lt z)
theorem reg_succ (s : Int) (l : List Int) (j : Nat) (h : j < l.length) : reg s l (j + 1) = Crc.byte (reg s l j) (n32 (rd l j)) := by
  unfold reg
  have e : rd l (j : Int) = l[j] := by
    unfold rd
    rw [Int.toNat_natCast, List.getD_eq_getElem?_getD, List.getElem?_eq_getElem h]
    rfl
  rw [List.take_succ_eq_append_getElem h, List.map_append, Crc.run_append, e]
  rfl
theorem byte_tab (x c : Nat) (hx : x < 2 ^ 32) (hc : c < 2 ^ 32) : Crc.byte x c = (((x ^^^ c) / 16 ^^^ tab ((x ^^^ c) % 16)) / 16) ^^^ tab (((x ^^^ c) / 16 ^^^ tab ((x ^^^ c) % 16)) % 16) := Crc.byte_two _

set_option maxHeartbeats 1000000 in
theorem crc_Extend.calls (a0 : Int) (A1 : Option Addr) (c1 : Nat) (l1 : List Int) (r : Int) (w : World) (hr1 : Kd.C (Kd.int .u8) w A1 l1.length l1) (hc1 : l1.length ≤ c1) (h : crc_Extend.f a0 l1 = some r) :
    Calls Try.prog 34 #[.int .u32 a0, .slice A1 l1.length c1] w fun e w' => e = .returned (.int .u32 r) ∧ Below w.heap.size w w' := by
  obtain rfl := Option.some.inj h
  clear h
  have HR := Aside0.mk hr1
  have hlen : l1.length ≤ 9223372036854775807 := hr1.2.1
  clear hr1
  have hx0 : Go.bits .xor .u32 IntKind.u32.max a0 = ((reg a0 l1 0 : Nat) : Int) := by rw [bits_xor_any, show n32 IntKind.u32.max = Crc.mask from by decide, Nat.xor_comm]; rfl
  go_enter Try.func34, Try.ntmps34
  have hsz : (tcells 0).size = (tcells 16).size := by rw [tcells_size, tcells_size]
  rw [tcells_zero] at hsz
  have hone := tcells_one
  go_wp2_with (first | (go_at_call 42; refine (sums_any _).mono ?_; rintro e w1 ⟨rfl, hB1⟩) | (refine wpList_store_row rfl 67 _ _ rfl w1.heap.size (tcells 16) rfl rfl 67 _ (heap_alloc_new w1 _) info61 hsz hone ?_))
  have hb1 := setRow_heap _ w1.heap.size _ (tcells 16) _ _ (heap_alloc_new w1 (.cells (tcells 0) 67))
  have hBf : Below w.heap.size w ((w1.alloc (.cells (tcells 0) 67)).setRow w1.heap.size (tcells 16)) := below_setRow (hB1.alloc hB1.size _) hB1.size _
  rw [tcells_zero] at hb1 hBf
  generalize (w1.alloc _).setRow w1.heap.size (tcells 16) = W at hb1 hBf ⊢
  have HRW := Aside0.mk (Kd.C_below HR.out hBf)
  have HBF := Aside0.mk hBf
  clear hsz hone hB1 hBf HR
  go_loop [5, 14] (fun x i => ∃ j : Nat, j ≤ l1.length ∧ i = .int .i64 j ∧ x = .int .u32 (reg a0 l1 j : Nat)) (fun _ i => l1.length - (intOf i).toNat)
  case atStart => exact ⟨0, Nat.zero_le _, rfl, rfl⟩
  case round =>
    clear hx0
    obtain ⟨j, hj, rfl, rfl⟩ := hrel
    by_cases hlt : j < l1.length
    · have hd : decide ((j : Int) < (l1.length : Int)) = true := by simp; omega
      have hd' : decide (j < l1.length) = true := by simp; omega
      obtain ⟨ad, rfl, hcell⟩ := Kd.at_int HRW.out (j : Int) (by omega) (by omega)
      rw [Int.toNat_natCast] at hcell
      have hX := reg_lt a0 l1 j
      have hsucc := reg_succ a0 l1 j hlt
      obtain ⟨c, hc⟩ : ∃ c, c = rd l1 (j : Int) := ⟨_, rfl⟩
      rw [← hc] at hcell hsucc
      rw [byte_tab _ _ hX (n32_lt c)] at hsucc
      have hcw := wrap_u32_eq c
      have hC := n32_lt c
      have hY : reg a0 l1 j ^^^ n32 c < 2 ^ 32 := Nat.xor_lt_two_pow hX hC
      have e1 : Go.bits .xor .u32 (reg a0 l1 j : Nat) (n32 c : Nat) = ((reg a0 l1 j ^^^ n32 c : Nat) : Int) := b_xor _ _ hX hC
      obtain ⟨Y, hYe⟩ : ∃ Y, Y = reg a0 l1 j ^^^ n32 c := ⟨_, rfl⟩
      rw [← hYe] at hsucc hY e1
      have e2 := b_and15 Y hY
      have hty := tab_lt (Y % 16) (by omega)
      have cy : W.cell? ⟨w1.heap.size, Y % 16, none⟩ = some (.int .u32 (tab (Y % 16) : Nat)) := by
        rw [cell_of_row W _ _ _ _ _ hb1, tcells_get _ _ (by omega), if_pos (by omega)]
      have hZ : Y / 16 ^^^ tab (Y % 16) < 2 ^ 32 := Nat.xor_lt_two_pow (by omega) hty
      have e3 : Go.bits .xor .u32 ((Y : Int) / 16) (tab (Y % 16) : Nat) = ((Y / 16 ^^^ tab (Y % 16) : Nat) : Int) := b_xor (Y / 16) _ (by omega) hty
      obtain ⟨Z, hZe⟩ : ∃ Z, Z = Y / 16 ^^^ tab (Y % 16) := ⟨_, rfl⟩
      rw [← hZe] at hsucc hZ e3
      have e4 := b_and15 Z hZ
      have htz := tab_lt (Z % 16) (by omega)
      have cz : W.cell? ⟨w1.heap.size, Z % 16, none⟩ = some (.int .u32 (tab (Z % 16) : Nat)) := by
        rw [cell_of_row W _ _ _ _ _ hb1, tcells_get _ _ (by omega), if_pos (by omega)]
      have e5 : Go.bits .xor .u32 ((Z : Int) / 16) (tab (Z % 16) : Nat) = ((Z / 16 ^^^ tab (Z % 16) : Nat) : Int) := b_xor (Z / 16) _ (by omega) htz
      have hY0 : Y < 4294967296 := by omega
      have hZ0 : Z < 4294967296 := by omega
      have y16 : Y % 16 < 16 := by omega
      have z16 : Z % 16 < 16 := by omega
      have HS := Aside0.mk hsucc
      clear hsucc hX hC hY hZ hty htz hc hYe hZe hb1
      go_wp2_with fail
      go_round
      case rel => exact ⟨j + 1, by omega, by go_num, by rw [HS.out]⟩
      case measure => simp [intOf]; omega
    · obtain rfl : j = l1.length := by omega
      have hend : Go.bits .xor .u32 IntKind.u32.max (reg a0 l1 l1.length : Nat) = extI a0 l1 := by
        rw [bits_xor_any, n32_nat _ (reg_lt _ _ _), show n32 IntKind.u32.max = Crc.mask from by decide, Nat.xor_comm]
        unfold extI Crc.ext reg
        rw [List.take_length]
      go_wp2_with fail
      go_ret
      exact ⟨rfl, HBF.out⟩
end Go.Proofs.Ytbjlfenappnccaa.Hand

end
section
-- Written by a program of this session (wip/tools/hprint.py, over the kit's printer), not by hand. Lean checks it.
namespace Go.Proofs.Ytbjlfenappnccaa.P
open Go.RowKit Go.Proofs.YtbjlfenappnccaaW.PrintWords Go.Proofs.YtbjlfenappnccaaW.PrintLast Go.Proofs.YtbjlfenappnccaaW.PrintMore
attribute [local go_sem] max2_int min2_int max_two min_two max_three min_three max_four min_four
set_option linter.unusedVariables false
set_option linter.unusedSimpArgs false

open Go.Proofs.Ytbjlfenappnccaa.Hand
/-! ### crc_Sum: function 23 -/
def crc_Sum.f (l0 : List Int) : Option (Int) := (crc_Extend.f 0 l0).bind fun t101 => (some t101)
set_option maxHeartbeats 8000000 in
set_option maxRecDepth 100000 in
theorem crc_Sum.calls (A0 : Option Addr) (c0 : Nat) (l0 : List Int) (r : Int) (w : World) (hr0 : Kd.C (Kd.int .u8) w A0 l0.length l0) (hc0 : l0.length ≤ c0) (h : crc_Sum.f l0 = some r) :
    Calls Try.prog 23 #[.slice A0 l0.length c0] w fun e w' => e = .returned (.int .u32 r) ∧ Below w.heap.size w w' := by
  have HR0 := Aside0.mk hr0
  have HC0 := Aside0.mk hc0
  clear hr0 hc0
  have HB := Aside0.mk (Below.refl w.heap.size w)
  have H : ((crc_Extend.f 0 l0).bind fun t101 => (some t101)) = some r := h
  clear h
  replace H := Option.bind_eq_some_iff.mp H
  obtain ⟨t101, A20, H⟩ := H
  replace H : (some t101) = some r := H
  have A2 := Aside0.mk A20
  clear A20
  obtain rfl := Option.some.inj H
  go_enter Try.func23, Try.ntmps23
  go_wp2_with (first | ((with_reducible refine gate_callee (f := 34) rfl ?_); refine goesL_ (some 4) rfl rfl Try.func34 (by kernel_rfl) rfl #[.int .u32 0, .slice A0 l0.length c0] rfl (by (try simp only [List.map_toArray, List.map_cons, List.map_nil]); first | done | rfl | (simp only [List.length_drop, List.length_take]; rfl)) ?_; (with_reducible refine (crc_Extend.calls 0 _ _ l0 t101 _ ?side1 ?side2 A2.out).mono ?_); (case side1 => repeat (first | exact HR0.out | (with_reducible refine Kd.C_alloc ?_ _) | (with_reducible refine Kd.C_drewN ?_ _) | (with_reducible refine Kd.C_drew ?_))); (case side2 => exact HC0.out); rintro e w3 ⟨rfl, hb⟩; refine ⟨_, rfl, ?_⟩; have n0_ := Aside0.mk (below_step (by repeat (first | (with_reducible first | exact HB.out | apply below_alloc | apply pw_below_drewN | apply below_drew1) | exact HB.out)) hb); clear HB; have HB := n0_; clear n0_; (try clear hb); (try clear hb2); (try clear hk); (try clear hi)))
  go_ret
  exact ⟨by first | rfl | (simp [errW_none, errW_some] <;> rfl) | (simp [*, errW_none, errW_some] <;> rfl), by repeat (first | (with_reducible first | exact HB.out | apply below_alloc | apply pw_below_drewN | apply below_drew1) | exact HB.out)⟩

end Go.Proofs.Ytbjlfenappnccaa.P

end
section
-- Written by a program of this session (wip/tools/hprint.py, over the kit's printer), not by hand. Lean checks it.
namespace Go.Proofs.Ytbjlfenappnccaa.P
open Go.RowKit Go.Proofs.YtbjlfenappnccaaW.PrintWords Go.Proofs.YtbjlfenappnccaaW.PrintLast Go.Proofs.YtbjlfenappnccaaW.PrintMore
attribute [local go_sem] max2_int min2_int max_two min_two max_three min_three max_four min_four
set_option linter.unusedVariables false
set_option linter.unusedSimpArgs false

/-! ### parts_good: function 22 -/
def parts_good.f (a0 : Int) : Option (Bool) := if a0 ≥ 1 then (some (decide (a0 ≤ 65535))) else (some false)
set_option maxHeartbeats 8000000 in
set_option maxRecDepth 100000 in
theorem parts_good.calls (a0 : Int) (r : Bool) (w : World) (h : parts_good.f a0 = some r) :
    Calls Try.prog 22 #[.int .i64 a0] w fun e w' => e = .returned (.bool r) ∧ Drawn0 w w' := by
  have H : (if a0 ≥ 1 then (some (decide (a0 ≤ 65535))) else (some false)) = some r := h
  clear h
  by_cases c2 : a0 ≥ 1
  · rw [if_pos c2] at H
    have c2b0 : decide (1 ≤ a0) = true := decide_eq_true c2
    clear c2
    obtain rfl := Option.some.inj H
    go_enter Try.func22, Try.ntmps22
    go_wp2
    go_ret
    exact ⟨by first | rfl | (simp; done) | (simp [*]; done), by repeat (first | exact Drawn0.refl _ | apply Drawn0.step)⟩
  · rw [if_neg c2] at H
    have c2b0 : decide (1 ≤ a0) = false := decide_eq_false c2
    clear c2
    obtain rfl := Option.some.inj H
    go_enter Try.func22, Try.ntmps22
    go_wp2
    go_ret
    exact ⟨by first | rfl | (simp; done) | (simp [*]; done), by repeat (first | exact Drawn0.refl _ | apply Drawn0.step)⟩

end Go.Proofs.Ytbjlfenappnccaa.P

end
section
-- Written by a program of this session (wip/tools/hprint.py, over the kit's printer), not by hand. Lean checks it.
namespace Go.Proofs.Ytbjlfenappnccaa.P
open Go.RowKit Go.Proofs.YtbjlfenappnccaaW.PrintWords Go.Proofs.YtbjlfenappnccaaW.PrintLast Go.Proofs.YtbjlfenappnccaaW.PrintMore
attribute [local go_sem] max2_int min2_int max_two min_two max_three min_three max_four min_four
set_option linter.unusedVariables false
set_option linter.unusedSimpArgs false

/-! ### winnowref1_M: function 43 -/
def winnowref1_M.f (a0 : Int) : Option (Int) := if (Int.tmod a0 2) = 1 then (some (Go.bits .xor .u32 (a0 / 2) 2197175160)) else (some (a0 / 2))
set_option maxHeartbeats 8000000 in
set_option maxRecDepth 100000 in
theorem winnowref1_M.calls (a0 : Int) (r : Int) (w : World) (h : winnowref1_M.f a0 = some r) :
    Calls Try.prog 43 #[.int .u32 a0] w fun e w' => e = .returned (.int .u32 r) ∧ Drawn0 w w' := by
  have H : (if (Int.tmod a0 2) = 1 then (some (Go.bits .xor .u32 (a0 / 2) 2197175160)) else (some (a0 / 2))) = some r := h
  clear h
  by_cases c2 : (Int.tmod a0 2) = 1
  · rw [if_pos c2] at H
    have c2b0 : ((Int.tmod a0 2) == 1) = true := beq_iff_eq.mpr c2
    have c2b1 : ((Int.tmod a0 2) != 1) = false := bne_eq_false_iff_eq.mpr c2
    clear c2
    obtain rfl := Option.some.inj H
    go_enter Try.func43, Try.ntmps43
    go_wp2
    go_ret
    exact ⟨by first | rfl | (simp; done) | (simp [*]; done), by repeat (first | exact Drawn0.refl _ | apply Drawn0.step)⟩
  · rw [if_neg c2] at H
    have c2b0 : ((Int.tmod a0 2) == 1) = false := beq_eq_false_iff_ne.mpr c2
    have c2b1 : ((Int.tmod a0 2) != 1) = true := bne_iff_ne.mpr c2
    obtain rfl := Option.some.inj H
    go_enter Try.func43, Try.ntmps43
    go_wp2
    go_ret
    exact ⟨by first | rfl | (simp; done) | (simp [*]; done), by repeat (first | exact Drawn0.refl _ | apply Drawn0.step)⟩

end Go.Proofs.Ytbjlfenappnccaa.P

end
section
-- Written by a program of this session (wip/tools/hprint.py, over the kit's printer), not by hand. Lean checks it.
namespace Go.Proofs.Ytbjlfenappnccaa.P
open Go.RowKit Go.Proofs.YtbjlfenappnccaaW.PrintWords Go.Proofs.YtbjlfenappnccaaW.PrintLast Go.Proofs.YtbjlfenappnccaaW.PrintMore
attribute [local go_sem] max2_int min2_int max_two min_two max_three min_three max_four min_four
set_option linter.unusedVariables false
set_option linter.unusedSimpArgs false

/-! ### winnowref1_Extend: function 35 -/
mutual
def winnowref1_Extend.l0 : Nat → List Int → Int → Int → Option (Int)
  | 0, _, _, _ => none
  | k + 1, x1, x5, x6 => if x6 < (x1.length : Int) then (if 0 ≤ x6 then (winnowref1_Extend.l1 k x1 (Go.bits .xor .u32 x5 ((rd x1 x6) % 4294967296)) x6 0) else (none)) else (some (Go.bits .xor .u32 IntKind.u32.max x5))
def winnowref1_Extend.l1 : Nat → List Int → Int → Int → Int → Option (Int)
  | 0, _, _, _, _ => none
  | k + 1, x1, x5, x6, x7 => if x7 < 8 then ((winnowref1_M.f x5).bind fun t103 => (winnowref1_Extend.l1 k x1 t103 x6 (wrap64 (x7 + 1)))) else (winnowref1_Extend.l0 k x1 x5 (wrap64 (x6 + 1)))
end
def winnowref1_Extend.f (k : Nat) (a0 : Int) (l1 : List Int) : Option (Int) := winnowref1_Extend.l0 k l1 (Go.bits .xor .u32 IntKind.u32.max a0) 0
theorem winnowref1_Extend.mono_l : ∀ k, (∀ y0 y1 y2, LeO (winnowref1_Extend.l0 k y0 y1 y2) (winnowref1_Extend.l0 (k + 1) y0 y1 y2)) ∧ (∀ y0 y1 y2 y3, LeO (winnowref1_Extend.l1 k y0 y1 y2 y3) (winnowref1_Extend.l1 (k + 1) y0 y1 y2 y3))
  | 0 => ⟨fun _ _ _ r h => by simp [winnowref1_Extend.l0] at h, fun _ _ _ _ r h => by simp [winnowref1_Extend.l1] at h⟩
  | k + 1 => by
    obtain ⟨ih0, ih1⟩ := winnowref1_Extend.mono_l k
    refine ⟨?_, ?_⟩
    · intro y0 y1 y2
      unfold winnowref1_Extend.l0
      repeat' first
      | (with_reducible exact ih0 _ _ _)
      | (with_reducible exact ih1 _ _ _ _)
      | (with_reducible exact LeO.refl _)
      | (with_reducible exact LeO.none _)
      | (with_reducible refine LeO.ite ?_ ?_)
      | (with_reducible refine LeO.bind ?_ (fun _ => ?_))
      | exact ih0 _ _ _
      | exact ih1 _ _ _ _
      | exact LeO.none _
      | refine LeO.ite ?_ ?_
      | refine LeO.bind ?_ (fun _ => ?_)
    · intro y0 y1 y2 y3
      unfold winnowref1_Extend.l1
      repeat' first
      | (with_reducible exact ih0 _ _ _)
      | (with_reducible exact ih1 _ _ _ _)
      | (with_reducible exact LeO.refl _)
      | (with_reducible exact LeO.none _)
      | (with_reducible refine LeO.ite ?_ ?_)
      | (with_reducible refine LeO.bind ?_ (fun _ => ?_))
      | exact ih0 _ _ _
      | exact ih1 _ _ _ _
      | exact LeO.none _
      | refine LeO.ite ?_ ?_
      | refine LeO.bind ?_ (fun _ => ?_)
theorem winnowref1_Extend.mono : ∀ a0 a1 k, LeO (winnowref1_Extend.f k a0 a1) (winnowref1_Extend.f (k + 1) a0 a1) := by
  intro a0 a1 k
  obtain ⟨ih0, ih1⟩ := winnowref1_Extend.mono_l k
  unfold winnowref1_Extend.f
  repeat' first
      | (with_reducible exact ih0 _ _ _)
      | (with_reducible exact ih1 _ _ _ _)
      | (with_reducible exact LeO.refl _)
      | (with_reducible exact LeO.none _)
      | (with_reducible refine LeO.ite ?_ ?_)
      | (with_reducible refine LeO.bind ?_ (fun _ => ?_))
      | exact ih0 _ _ _
      | exact ih1 _ _ _ _
      | exact LeO.none _
      | refine LeO.ite ?_ ?_
      | refine LeO.bind ?_ (fun _ => ?_)
set_option maxHeartbeats 8000000 in
set_option maxRecDepth 100000 in
theorem winnowref1_Extend.calls (k : Nat) (a0 : Int) (A1 : Option Addr) (c1 : Nat) (l1 : List Int) (r : Int) (w : World) (hr1 : Kd.C (Kd.int .u8) w A1 l1.length l1) (hc1 : l1.length ≤ c1) (h : winnowref1_Extend.f k a0 l1 = some r) :
    Calls Try.prog 35 #[.int .u32 a0, .slice A1 l1.length c1] w fun e w' => e = .returned (.int .u32 r) ∧ Drawn0 w w' := by
  have HR1 := Aside0.mk hr1
  have HC1 := Aside0.mk hc1
  clear hr1 hc1
  have H : (winnowref1_Extend.l0 k l1 (Go.bits .xor .u32 IntKind.u32.max a0) 0) = some r := h
  clear h
  have H' := Aside0.mk H
  clear H
  go_enter Try.func35, Try.ntmps35
  go_wp2
  go_loopg [5, 6] k (fun kq v5 v6 w' => ∃ (x5_1 : Int) (x6_1 : Int), v5 = .int .u32 x5_1 ∧ v6 = .int .i64 x6_1 ∧ Aside0 (winnowref1_Extend.l0 kq l1 x5_1 x6_1 = some r) ∧ Aside0 (kq ≤ k) ∧ Drawn0 w w')
  case atStart => exact ⟨(Go.bits .xor .u32 IntKind.u32.max a0), (0), (by first | rfl | (simp; done) | (simp [*]; done)), (by first | rfl | (simp; done) | (simp [*]; done)), H', ⟨Nat.le_refl _⟩, by repeat (first | exact Drawn0.refl _ | apply Drawn0.step)⟩
  case round =>
    clear H'
    try clear c1
    try clear p2
    obtain ⟨x5_1, x6_1, rfl, rfl, HA, HK1, ⟨m1, rfl⟩⟩ := hrel
    cases gk with
    | zero => exact absurd HA.out (by simp [winnowref1_Extend.l0])
    | succ k1 =>
      have H := HA.out
      clear HA
      simp only [winnowref1_Extend.l0] at H
      by_cases c3 : x6_1 < (l1.length : Int)
      · rw [if_pos c3] at H
        have c3b0 : decide (x6_1 < (l1.length : Int)) = true := decide_eq_true c3
        clear c3
        by_cases c4 : 0 ≤ x6_1
        · rw [if_pos c4] at H
          have c4b0 : decide (0 ≤ x6_1) = true := decide_eq_true c4
          clear c4
          have H' := Aside0.mk H
          clear H
          have p102 : 0 ≤ (x6_1 : Int) := of_decide_eq_true (by first | (with_reducible assumption) | assumption)
          have q102 : x6_1 < (l1.length : Int) := of_decide_eq_true (by first | (with_reducible assumption) | assumption)
          obtain ⟨ad102, e102, hx102_0⟩ := Kd.at_int HR1.out x6_1 p102 q102
          cases e102
          replace p102 := eq_true p102
          replace q102 := eq_true q102
          go_wp2
          go_loopg [5, 7] k1 (fun kq v5 v7 w' => ∃ (x5_2 : Int) (x7_2 : Int), v5 = .int .u32 x5_2 ∧ v7 = .int .i64 x7_2 ∧ Aside0 (winnowref1_Extend.l1 kq l1 x5_2 x6_1 x7_2 = some r) ∧ Aside0 (kq ≤ k1) ∧ Drawn0 w w')
          case atStart => exact ⟨(Go.bits .xor .u32 x5_1 ((rd l1 x6_1) % 4294967296)), (0), (by first | rfl | (simp; done) | (simp [*]; done)), (by first | rfl | (simp; done) | (simp [*]; done)), H', ⟨Nat.le_refl _⟩, by repeat (first | exact Drawn0.refl _ | apply Drawn0.step)⟩
          case round =>
            clear H'
            try clear c1
            try clear p1
            try clear q1
            try clear hx1
            try clear p2
            try clear c3
            try clear c3b0
            try clear c4
            try clear c4b0
            try clear hx102_0
            try clear p102
            try clear p2
            try clear q102
            obtain ⟨x5_2, x7_2, rfl, rfl, HA, HK2, ⟨m2, rfl⟩⟩ := hrel
            cases gk with
            | zero => exact absurd HA.out (by simp [winnowref1_Extend.l1])
            | succ k2 =>
              have H := HA.out
              clear HA
              simp only [winnowref1_Extend.l1] at H
              by_cases c5 : x7_2 < 8
              · rw [if_pos c5] at H
                have c5b0 : decide (x7_2 < 8) = true := decide_eq_true c5
                clear c5
                replace H := Option.bind_eq_some_iff.mp H
                obtain ⟨t103, A60, H⟩ := H
                replace H : (winnowref1_Extend.l1 k2 l1 t103 x6_1 (wrap64 (x7_2 + 1))) = some r := H
                have A6 := Aside0.mk A60
                clear A60
                have H' := Aside0.mk H
                clear H
                go_wp2_with (first | ((with_reducible refine gate_callee (f := 43) rfl ?_); refine goesL_ (some 28) rfl rfl Try.func43 (by kernel_rfl) rfl #[.int .u32 x5_2] rfl (by (try simp only [List.map_toArray, List.map_cons, List.map_nil]); first | done | rfl | (simp only [List.length_drop, List.length_take]; rfl)) ?_; (with_reducible refine (winnowref1_M.calls x5_2 t103 _ A6.out).mono ?_); rintro e w' ⟨rfl, ⟨nd, rfl⟩⟩; refine ⟨_, rfl, ?_⟩))
                go_roundg k2
                case measure => have := HK1.out; have := HK2.out; omega
                case rel => exact ⟨(t103), (wrap64 (x7_2 + 1)), (by first | rfl | (simp; done) | (simp [*]; done)), (by first | rfl | (simp; done) | (simp [*]; done)), H', ⟨by have := HK1.out; have := HK2.out; omega⟩, by repeat (first | exact Drawn0.refl _ | apply Drawn0.step)⟩
              · rw [if_neg c5] at H
                have c5b0 : decide (x7_2 < 8) = false := decide_eq_false c5
                clear c5
                have H' := Aside0.mk H
                clear H
                go_wp2
                go_roundg k2
                case measure => have := HK1.out; have := HK2.out; omega
                case rel => exact ⟨(x5_2), (wrap64 (x6_1 + 1)), (by first | rfl | (simp; done) | (simp [*]; done)), (by first | rfl | (simp; done) | (simp [*]; done)), H', ⟨by have := HK1.out; have := HK2.out; omega⟩, by repeat (first | exact Drawn0.refl _ | apply Drawn0.step)⟩
        · rw [if_neg c4] at H
          exact absurd H (by simp)
      · rw [if_neg c3] at H
        have c3b0 : decide (x6_1 < (l1.length : Int)) = false := decide_eq_false c3
        clear c3
        obtain rfl := Option.some.inj H
        go_wp2
        go_ret
        exact ⟨by first | rfl | (simp; done) | (simp [*]; done), by repeat (first | exact Drawn0.refl _ | apply Drawn0.step)⟩

end Go.Proofs.Ytbjlfenappnccaa.P

end
section
-- Written by a program of this session (wip/tools/hprint.py, over the kit's printer), not by hand. Lean checks it.
namespace Go.Proofs.Ytbjlfenappnccaa.P
open Go.RowKit Go.Proofs.YtbjlfenappnccaaW.PrintWords Go.Proofs.YtbjlfenappnccaaW.PrintLast Go.Proofs.YtbjlfenappnccaaW.PrintMore
attribute [local go_sem] max2_int min2_int max_two min_two max_three min_three max_four min_four
set_option linter.unusedVariables false
set_option linter.unusedSimpArgs false

/-! ### winnowref1_Sum: function 24 -/
def winnowref1_Sum.f (k : Nat) (l0 : List Int) : Option (Int) := (winnowref1_Extend.f k 0 l0).bind fun t104 => (some t104)
theorem winnowref1_Sum.mono : ∀ a0 k, LeO (winnowref1_Sum.f k a0) (winnowref1_Sum.f (k + 1) a0) := by
  intro a0 k
  unfold winnowref1_Sum.f
  repeat' first
      | (with_reducible exact winnowref1_Extend.mono _ _ _)
      | (with_reducible exact LeO.refl _)
      | (with_reducible exact LeO.none _)
      | (with_reducible refine LeO.ite ?_ ?_)
      | (with_reducible refine LeO.bind ?_ (fun _ => ?_))
      | exact winnowref1_Extend.mono _ _ _
      | exact LeO.none _
      | refine LeO.ite ?_ ?_
      | refine LeO.bind ?_ (fun _ => ?_)
set_option maxHeartbeats 8000000 in
set_option maxRecDepth 100000 in
theorem winnowref1_Sum.calls (k : Nat) (A0 : Option Addr) (c0 : Nat) (l0 : List Int) (r : Int) (w : World) (hr0 : Kd.C (Kd.int .u8) w A0 l0.length l0) (hc0 : l0.length ≤ c0) (h : winnowref1_Sum.f k l0 = some r) :
    Calls Try.prog 24 #[.slice A0 l0.length c0] w fun e w' => e = .returned (.int .u32 r) ∧ Drawn0 w w' := by
  have HR0 := Aside0.mk hr0
  have HC0 := Aside0.mk hc0
  clear hr0 hc0
  have H : ((winnowref1_Extend.f k 0 l0).bind fun t104 => (some t104)) = some r := h
  clear h
  replace H := Option.bind_eq_some_iff.mp H
  obtain ⟨t104, A20, H⟩ := H
  replace H : (some t104) = some r := H
  have A2 := Aside0.mk A20
  clear A20
  obtain rfl := Option.some.inj H
  go_enter Try.func24, Try.ntmps24
  go_wp2_with (first | ((with_reducible refine gate_callee (f := 35) rfl ?_); refine goesL_ (some 4) rfl rfl Try.func35 (by kernel_rfl) rfl #[.int .u32 0, .slice A0 l0.length c0] rfl (by (try simp only [List.map_toArray, List.map_cons, List.map_nil]); first | done | rfl | (simp only [List.length_drop, List.length_take]; rfl)) ?_; (with_reducible refine (winnowref1_Extend.calls k 0 _ _ l0 t104 _ ?side1 ?side2 A2.out).mono ?_); (case side1 => repeat (first | exact HR0.out | (with_reducible refine Kd.C_alloc ?_ _) | (with_reducible refine Kd.C_drewN ?_ _) | (with_reducible refine Kd.C_drew ?_))); (case side2 => exact HC0.out); rintro e w' ⟨rfl, ⟨nd, rfl⟩⟩; refine ⟨_, rfl, ?_⟩))
  go_ret
  exact ⟨by first | rfl | (simp; done) | (simp [*]; done), by repeat (first | exact Drawn0.refl _ | apply Drawn0.step)⟩

end Go.Proofs.Ytbjlfenappnccaa.P

end
section
/- The document's own sum of bytes is the same number as the program's. -/
namespace Go.Proofs.Ytbjlfenappnccaa.P
open Go.RowKit Go.Proofs.YtbjlfenappnccaaW.PrintWords Go.Proofs.YtbjlfenappnccaaW.PrintLast Go.Proofs.Ytbjlfenappnccaa.Hand
set_option linter.unusedVariables false

theorem M_eq (x : Nat) (hx : x < 2 ^ 32) : winnowref1_M.f (x : Int) = some ((Crc.step x : Nat) : Int) := by
  unfold winnowref1_M.f Crc.step
  rw [show Int.tmod (x : Int) 2 = ((x % 2 : Nat) : Int) from rfl]
  rcases Nat.mod_two_eq_zero_or_one x with h | h
  · rw [h, if_neg (by decide), if_neg (by decide)]; simp
  · rw [h, if_pos (by decide), if_pos (by decide)]
    have := b_xor (x / 2) Crc.poly (by omega) Crc.poly_lt
    rw [show ((x / 2 : Nat) : Int) = (x : Int) / 2 from by simp] at this
    rw [← this]
    rfl
theorem ref_inner (l : List Int) (i : Int) (d : Nat) : ∀ (k X j : Nat), X < 2 ^ 32 → j + d = 8 → winnowref1_Extend.l1 (k + d + 1) l (X : Int) i (j : Int) = winnowref1_Extend.l0 k l ((Crc.pw Crc.step d X : Nat) : Int) (wrap64 (i + 1)) := by
  induction d with
  | zero =>
    intro k X j hX hj
    obtain rfl : j = 8 := by omega
    rw [winnowref1_Extend.l1, if_neg (by decide)]
    rfl
  | succ d ih =>
    intro k X j hX hj
    have hw : wrap64 ((j : Int) + 1) = ((j + 1 : Nat) : Int) := by unfold wrap64; omega
    rw [winnowref1_Extend.l1, if_pos (by omega), M_eq X hX, Option.bind_some, hw, show k + (d + 1) = k + d + 1 from rfl, ih k (Crc.step X) (j + 1) (Crc.step_lt hX) (by omega), ← Crc.pw_succ']
theorem n32_mod (z : Int) : n32 (z % 4294967296) = n32 z := by unfold n32; omega
theorem ref_loop (s : Int) (l : List Int) (hl : l.length ≤ 9223372036854775806) (d : Nat) : ∀ (K i : Nat), i + d = l.length → 10 * d < K → winnowref1_Extend.l0 K l (reg s l i : Int) (i : Int) = some (extI s l) := by
  induction d with
  | zero =>
    intro K i hi hK
    obtain ⟨K, rfl⟩ : ∃ q, K = q + 1 := ⟨K - 1, by omega⟩
    obtain rfl : i = l.length := by omega
    rw [winnowref1_Extend.l0, if_neg (by omega), bits_xor_any, n32_nat _ (reg_lt _ _ _), show n32 IntKind.u32.max = Crc.mask from by decide, Nat.xor_comm]
    unfold extI Crc.ext reg
    rw [List.take_length]
  | succ d ih =>
    intro K i hi hK
    obtain ⟨K, rfl⟩ : ∃ q, K = (q + 8 + 1) + 1 := ⟨K - 10, by omega⟩
    have hw : wrap64 ((i : Int) + 1) = ((i + 1 : Nat) : Int) := by unfold wrap64; omega
    have hX := reg_lt s l i
    rw [winnowref1_Extend.l0, if_pos (by omega), if_pos (Int.natCast_nonneg i), bits_xor_any, n32_nat _ hX, n32_mod,
      show (0 : Int) = ((0 : Nat) : Int) from rfl, ref_inner l i 8 K _ 0 (Nat.xor_lt_two_pow hX (n32_lt _)) rfl, hw]
    have := reg_succ s l i (by omega)
    unfold Crc.byte at this
    rw [← this]
    exact ih K (i + 1) (by omega) (by omega)
theorem RefExtend_eq (s : Int) (l : List Int) (hl : l.length ≤ 9223372036854775806) (K : Nat) (hK : 10 * l.length < K) : winnowref1_Extend.f K s l = some (extI s l) := by
  unfold winnowref1_Extend.f
  have := ref_loop s l hl l.length K 0 (by omega) hK
  have h0 : Go.bits .xor .u32 IntKind.u32.max s = ((reg s l 0 : Nat) : Int) := by rw [bits_xor_any, show n32 IntKind.u32.max = Crc.mask from by decide, Nat.xor_comm]; rfl
  rw [h0]
  exact this
theorem RefSum_eq (l : List Int) (hl : l.length ≤ 9223372036854775806) (K : Nat) (hK : 10 * l.length < K) : winnowref1_Sum.f K l = some (extI 0 l) := by
  unfold winnowref1_Sum.f
  rw [RefExtend_eq 0 l hl K hK, Option.bind_some]
end Go.Proofs.Ytbjlfenappnccaa.P

end
section
/- Hash, the program's and the document's: the sum of the key's bytes, modulo the parts; contracts by hand. -/
namespace Go.Proofs.Ytbjlfenappnccaa.Hand
open Go.RowKit Go.Proofs.YtbjlfenappnccaaW.PrintWords Go.Proofs.YtbjlfenappnccaaW.PrintLast Go.Proofs.Ytbjlfenappnccaa.P
set_option linter.unusedVariables false
set_option linter.unusedSimpArgs false

/-- what a key's part is -/
def hashI (s : ByteArray) (n : Int) : Int := if 1 ≤ n ∧ n ≤ 65535 then extI 0 (bytesOf s) % n else 0
def parts_Hash.f (a0 : ByteArray) (a1 : Int) : Option Int := if a0.size ≤ 140737488351232 then some (hashI a0 a1) else none
def winnowref14_Hash.f (a0 : ByteArray) (a1 : Int) : Option Int := if a0.size ≤ 140737488351232 then some (hashI a0 a1) else none

theorem below_bytes (w : World) (e : TypeId) (s : ByteArray) : Below w.heap.size w (Lib.bytesWorld w e s) :=
  ⟨rfl, rfl, rfl, by rw [Lib.bytesWorld_size]; omega, fun i hi => Lib.bytesWorld_at_old w e s i hi⟩
theorem C_bytes (w : World) (s : ByteArray) (h : s.size ≤ 9223372036854775807) : Kd.C (Kd.int .u8) (Lib.bytesWorld w 5 s) (some ⟨w.heap.size, 0, none⟩) (bytesOf s).length (bytesOf s) := by
  refine ⟨rfl, by rw [bytesOf_length]; exact h, fun _ => ⟨_, rfl, fun j p hj => ⟨[.int .u8 p], rfl, rfl, fun i u hu => ?_⟩⟩⟩
  have hi : i = 0 := by
    rcases i with _ | i
    · rfl
    · simp at hu
  subst hi
  have hu' : Value.int .u8 p = u := by simpa using hu
  subst hu'
  have e : (⟨w.heap.size, 0, none⟩ : Addr).add (j * (Kd.int .u8).sz + 0) = ⟨w.heap.size, j, none⟩ := by
    show (⟨w.heap.size, 0, none⟩ : Addr).add (j * 1 + 0) = _
    rw [Nat.mul_one, Nat.add_zero]
    exact add_plain _ j
  have hj' : (s.data.toList.map fun b => (b.toNat : Int))[j]? = some p := hj
  rw [List.getElem?_map, Option.map_eq_some_iff] at hj'
  obtain ⟨b, hb, rfl⟩ := hj'
  have hl' : j < s.size := by
    have := (List.getElem?_eq_some_iff.1 hb).1
    rw [data_length] at this
    exact this
  rw [e, Lib.bytesWorld_cell w 5 s j hl', List.getD_eq_getElem?_getD, hb]
  rfl
/-- Sum of the bytes of a text that has just been converted. -/
theorem sum_conv (s : ByteArray) (hs : s.size ≤ 140737488351232) (w : World) : Calls Try.prog 23 #[.slice (some ⟨w.heap.size, 0, none⟩) s.size (grownCap w s.size 0 5)] (Lib.bytesWorld w 5 s) fun e w' => e = .returned (.int .u32 (extI 0 (bytesOf s))) ∧ Below (Lib.bytesWorld w 5 s).heap.size (Lib.bytesWorld w 5 s) w' := by
  have h := crc_Sum.calls (some ⟨w.heap.size, 0, none⟩) (grownCap w s.size 0 5) (bytesOf s) (extI 0 (bytesOf s)) (Lib.bytesWorld w 5 s) (C_bytes w s (by omega)) (by rw [bytesOf_length]; exact grownCap_ge _ _ _ _) rfl
  rw [bytesOf_length] at h
  exact h
theorem rsum_conv (s : ByteArray) (hs : s.size ≤ 140737488351232) (w : World) : Calls Try.prog 24 #[.slice (some ⟨w.heap.size, 0, none⟩) s.size (grownCap w s.size 0 5)] (Lib.bytesWorld w 5 s) fun e w' => e = .returned (.int .u32 (extI 0 (bytesOf s))) ∧ Drawn0 (Lib.bytesWorld w 5 s) w' := by
  have h := winnowref1_Sum.calls (10 * (bytesOf s).length + 1) (some ⟨w.heap.size, 0, none⟩) (grownCap w s.size 0 5) (bytesOf s) (extI 0 (bytesOf s)) (Lib.bytesWorld w 5 s) (C_bytes w s (by omega)) (by rw [bytesOf_length]; exact grownCap_ge _ _ _ _) (RefSum_eq _ (by rw [bytesOf_length]; omega) _ (by omega))
  rw [bytesOf_length] at h
  exact h
theorem ext_in (s : ByteArray) : 0 ≤ extI 0 (bytesOf s) ∧ extI 0 (bytesOf s) < 4294967296 := by
  have h : ∀ c ∈ (bytesOf s).map n32, c < 2 ^ 32 := fun c hc => by obtain ⟨z, _, rfl⟩ := List.mem_map.1 hc; exact n32_lt z
  have : Crc.ext (n32 0) ((bytesOf s).map n32) < 2 ^ 32 := Nat.xor_lt_two_pow (run_lt _ _ (Nat.xor_lt_two_pow (n32_lt 0) mask_lt) h) mask_lt
  unfold extI
  omega

set_option maxHeartbeats 1000000 in
theorem parts_Hash.calls (a0 : ByteArray) (a1 : Int) (r : Int) (w : World) (h : parts_Hash.f a0 a1 = some r) :
    Calls Try.prog 8 #[.string a0, .int .i64 a1] w fun e w' => e = .returned (.int .i64 r) ∧ Below w.heap.size w w' := by
  unfold parts_Hash.f at h
  by_cases hs : a0.size ≤ 140737488351232
  · rw [if_pos hs] at h
    obtain rfl := Option.some.inj h
    clear h
    have kc := fun (w : World) => Lib.run_convert_string_bytes (P := Try.prog) w 9 47 5 a0 Try.underlying9 Try.underlying47 Try.underlying5
    by_cases hn : 1 ≤ a1 ∧ a1 ≤ 65535
    · have hg : parts_good.f a1 = some true := by unfold parts_good.f; rw [if_pos hn.1, decide_eq_true hn.2]
      have hI : hashI a0 a1 = extI 0 (bytesOf a0) % a1 := by unfold hashI; rw [if_pos hn]
      have hx := ext_in a0
      obtain ⟨x, hX⟩ : ∃ x, x = extI 0 (bytesOf a0) := ⟨_, rfl⟩
      have hm0 : 0 ≤ x % a1 := Int.emod_nonneg _ (by omega)
      have hm1 : x % a1 < a1 := Int.emod_lt_of_pos _ (by omega)
      rw [← hX] at hx hI
      have hSum := sum_conv a0 hs
      rw [← hX] at hSum
      have HS := Aside0.mk hSum
      obtain ⟨hn1, hn2⟩ := hn
      obtain ⟨hx1, hx2⟩ := hx
      have HI := Aside0.mk hI
      clear hI hX hSum
      have hw1 : IntKind.u32.wrap a1 = a1 := by rw [IntKind.wrap_u32]; omega
      have hne : ¬ a1 = 0 := by omega
      go_enter Try.func8, Try.ntmps8
      go_wp2_with fail
      refine (parts_good.calls a1 true w hg).mono ?_
      rintro e w1 ⟨rfl, hD⟩
      go_wp2_with fail
      refine (HS.out w1).mono ?_
      rintro e w2 ⟨rfl, hB⟩
      have HB : Aside0 (Below w.heap.size w w2) := ⟨below_step (below_step hD.below (below_bytes w1 5 a0)) hB⟩
      clear hB hD
      go_wp2_with fail
      go_ret
      exact ⟨congrArg (fun z => Ending.returned (.int .i64 z)) HI.out.symm, HB.out⟩
    · have hg : parts_good.f a1 = some false := by
        unfold parts_good.f
        by_cases h1 : 1 ≤ a1
        · rw [if_pos h1, decide_eq_false (by omega)]
        · rw [if_neg h1]
      have hI : hashI a0 a1 = 0 := by unfold hashI; rw [if_neg hn]
      have HI := Aside0.mk hI
      clear hI hn
      go_enter Try.func8, Try.ntmps8
      go_wp2_with fail
      refine (parts_good.calls a1 false w hg).mono ?_
      rintro e w1 ⟨rfl, hD⟩
      go_wp2_with fail
      go_ret
      exact ⟨congrArg (fun z => Ending.returned (.int .i64 z)) HI.out.symm, hD.below⟩
  · rw [if_neg hs] at h; cases h

set_option maxHeartbeats 1000000 in
theorem winnowref14_Hash.calls (a0 : ByteArray) (a1 : Int) (r : Int) (w : World) (h : winnowref14_Hash.f a0 a1 = some r) :
    Calls Try.prog 9 #[.string a0, .int .i64 a1] w fun e w' => e = .returned (.int .i64 r) ∧ Below w.heap.size w w' := by
  unfold winnowref14_Hash.f at h
  by_cases hs : a0.size ≤ 140737488351232
  · rw [if_pos hs] at h
    obtain rfl := Option.some.inj h
    clear h
    have kc := fun (w : World) => Lib.run_convert_string_bytes (P := Try.prog) w 9 47 5 a0 Try.underlying9 Try.underlying47 Try.underlying5
    by_cases hn : 1 ≤ a1 ∧ a1 ≤ 65535
    · have hI : hashI a0 a1 = extI 0 (bytesOf a0) % a1 := by unfold hashI; rw [if_pos hn]
      have hx := ext_in a0
      obtain ⟨x, hX⟩ : ∃ x, x = extI 0 (bytesOf a0) := ⟨_, rfl⟩
      have hm0 : 0 ≤ x % a1 := Int.emod_nonneg _ (by omega)
      have hm1 : x % a1 < a1 := Int.emod_lt_of_pos _ (by omega)
      rw [← hX] at hx hI
      have hSum := rsum_conv a0 hs
      rw [← hX] at hSum
      have HS := Aside0.mk hSum
      obtain ⟨hn1, hn2⟩ := hn
      obtain ⟨hx1, hx2⟩ := hx
      have HI := Aside0.mk hI
      clear hI hX hSum
      have hw1 : IntKind.u32.wrap a1 = a1 := by rw [IntKind.wrap_u32]; omega
      have hne : ¬ a1 = 0 := by omega
      go_enter Try.func9, Try.ntmps9
      go_wp2_with fail
      refine (HS.out w).mono ?_
      rintro e w2 ⟨rfl, hB⟩
      have HB : Aside0 (Below w.heap.size w w2) := ⟨below_step (below_bytes w 5 a0) hB.below⟩
      clear hB
      go_wp2_with fail
      go_ret
      exact ⟨congrArg (fun z => Ending.returned (.int .i64 z)) HI.out.symm, HB.out⟩
    · have hI : hashI a0 a1 = 0 := by unfold hashI; rw [if_neg hn]
      have HI := Aside0.mk hI
      clear hI
      by_cases h1 : a1 < 1
      · clear hn
        go_enter Try.func9, Try.ntmps9
        go_wp2_with fail
        go_ret
        exact ⟨congrArg (fun z => Ending.returned (.int .i64 z)) HI.out.symm, Below.refl _ _⟩
      · have h2 : 65535 < a1 := by omega
        clear hn
        go_enter Try.func9, Try.ntmps9
        go_wp2_with fail
        go_ret
        exact ⟨congrArg (fun z => Ending.returned (.int .i64 z)) HI.out.symm, Below.refl _ _⟩
  · rw [if_neg hs] at h; cases h
end Go.Proofs.Ytbjlfenappnccaa.Hand

end
section
-- Written by a program of this session (wip/tools/hprint.py, over the kit's printer), not by hand. Lean checks it.
namespace Go.Proofs.Ytbjlfenappnccaa.P
open Go.RowKit Go.Proofs.YtbjlfenappnccaaW.PrintWords Go.Proofs.YtbjlfenappnccaaW.PrintLast Go.Proofs.YtbjlfenappnccaaW.PrintMore
attribute [local go_sem] max2_int min2_int max_two min_two max_three min_three max_four min_four
set_option linter.unusedVariables false
set_option linter.unusedSimpArgs false

/-! ### parts_Check: function 20 -/
mutual
def parts_Check.j0 : Nat → Bool → Int → Int → List ByteArray → Bool → Int → Int → Int → Int → Int → Int → Option (Int)
  | 0, _, _, _, _, _, _, _, _, _, _, _ => none
  | k + 1, x21, x122000, x122001, x122002, x122003, x122004, x122005, x122006, x122007, x122008, x122009 => if x21 = true then (some 140) else (parts_Check.l0 k x122002 (x122002.length : Int) 0 x122000 x122001 x122002 x122003 x122004 x122005 x122006 x122007 x122008 x122009)
def parts_Check.l0 : Nat → List ByteArray → Int → Int → Int → Int → List ByteArray → Bool → Int → Int → Int → Int → Int → Int → Option (Int)
  | 0, _, _, _, _, _, _, _, _, _, _, _, _, _ => none
  | k + 1, x23, x24, x25, x122000, x122001, x122002, x122003, x122004, x122005, x122006, x122007, x122008, x122009 => if x25 < x24 then (if 0 ≤ x25 then (if x25 < (x23.length : Int) then (if ((rdOf ByteArray.empty x23 x25).size : Int) > 1024 then (some 140) else (if x25 > 0 then (if 0 ≤ (wrap64 (x25 - 1)) then (if (wrap64 (x25 - 1)) < (x122002.length : Int) then ((nums_Compare.f k (rdOf ByteArray.empty x23 x25) (rdOf ByteArray.empty x122002 (wrap64 (x25 - 1)))).bind fun t125 => (if t125 < 0 then (some 140) else (parts_Check.l0 k x23 x24 (wrap64 (x25 + 1)) x122000 x122001 x122002 x122003 x122004 x122005 x122006 x122007 x122008 x122009))) else (none)) else (none)) else (parts_Check.l0 k x23 x24 (wrap64 (x25 + 1)) x122000 x122001 x122002 x122003 x122004 x122005 x122006 x122007 x122008 x122009))) else (none)) else (none)) else (some 0)
end
def parts_Check.f (k : Nat) (a0_0 : Int) (a0_1 : Int) (l0_2 : List ByteArray) (a0_3 : Bool) (a0_4 : Int) (a0_5 : Int) (a0_6 : Int) (a0_7 : Int) (a0_8 : Int) (a0_9 : Int) : Option (Int) := (parts_good.f a0_1).bind fun t122 => (if t122 = true then (if (l0_2.length : Int) > 0 then (parts_Check.j0 k ((l0_2.length : Int) != (wrap64 (a0_1 - 1))) a0_0 a0_1 l0_2 a0_3 a0_4 a0_5 a0_6 a0_7 a0_8 a0_9) else (parts_Check.j0 k false a0_0 a0_1 l0_2 a0_3 a0_4 a0_5 a0_6 a0_7 a0_8 a0_9)) else (some 3))
theorem parts_Check.mono_l : ∀ k, (∀ y0 y1 y2 y3 y4 y5 y6 y7 y8 y9 y10, LeO (parts_Check.j0 k y0 y1 y2 y3 y4 y5 y6 y7 y8 y9 y10) (parts_Check.j0 (k + 1) y0 y1 y2 y3 y4 y5 y6 y7 y8 y9 y10)) ∧ (∀ y0 y1 y2 y3 y4 y5 y6 y7 y8 y9 y10 y11 y12, LeO (parts_Check.l0 k y0 y1 y2 y3 y4 y5 y6 y7 y8 y9 y10 y11 y12) (parts_Check.l0 (k + 1) y0 y1 y2 y3 y4 y5 y6 y7 y8 y9 y10 y11 y12))
  | 0 => ⟨fun _ _ _ _ _ _ _ _ _ _ _ r h => by simp [parts_Check.j0] at h, fun _ _ _ _ _ _ _ _ _ _ _ _ _ r h => by simp [parts_Check.l0] at h⟩
  | k + 1 => by
    obtain ⟨ih0, ih1⟩ := parts_Check.mono_l k
    refine ⟨?_, ?_⟩
    · intro y0 y1 y2 y3 y4 y5 y6 y7 y8 y9 y10
      unfold parts_Check.j0
      repeat' first
      | (with_reducible exact ih0 _ _ _ _ _ _ _ _ _ _ _)
      | (with_reducible exact ih1 _ _ _ _ _ _ _ _ _ _ _ _ _)
      | (with_reducible exact nums_Compare.mono _ _ _)
      | (with_reducible exact LeO.refl _)
      | (with_reducible exact LeO.none _)
      | (with_reducible refine LeO.ite ?_ ?_)
      | (with_reducible refine LeO.bind ?_ (fun _ => ?_))
      | exact ih0 _ _ _ _ _ _ _ _ _ _ _
      | exact ih1 _ _ _ _ _ _ _ _ _ _ _ _ _
      | exact nums_Compare.mono _ _ _
      | exact LeO.none _
      | refine LeO.ite ?_ ?_
      | refine LeO.bind ?_ (fun _ => ?_)
    · intro y0 y1 y2 y3 y4 y5 y6 y7 y8 y9 y10 y11 y12
      unfold parts_Check.l0
      repeat' first
      | (with_reducible exact ih0 _ _ _ _ _ _ _ _ _ _ _)
      | (with_reducible exact ih1 _ _ _ _ _ _ _ _ _ _ _ _ _)
      | (with_reducible exact nums_Compare.mono _ _ _)
      | (with_reducible exact LeO.refl _)
      | (with_reducible exact LeO.none _)
      | (with_reducible refine LeO.ite ?_ ?_)
      | (with_reducible refine LeO.bind ?_ (fun _ => ?_))
      | exact ih0 _ _ _ _ _ _ _ _ _ _ _
      | exact ih1 _ _ _ _ _ _ _ _ _ _ _ _ _
      | exact nums_Compare.mono _ _ _
      | exact LeO.none _
      | refine LeO.ite ?_ ?_
      | refine LeO.bind ?_ (fun _ => ?_)
theorem parts_Check.mono : ∀ a0 a1 a2 a3 a4 a5 a6 a7 a8 a9 k, LeO (parts_Check.f k a0 a1 a2 a3 a4 a5 a6 a7 a8 a9) (parts_Check.f (k + 1) a0 a1 a2 a3 a4 a5 a6 a7 a8 a9) := by
  intro a0 a1 a2 a3 a4 a5 a6 a7 a8 a9 k
  obtain ⟨ih0, ih1⟩ := parts_Check.mono_l k
  unfold parts_Check.f
  repeat' first
      | (with_reducible exact ih0 _ _ _ _ _ _ _ _ _ _ _)
      | (with_reducible exact ih1 _ _ _ _ _ _ _ _ _ _ _ _ _)
      | (with_reducible exact nums_Compare.mono _ _ _)
      | (with_reducible exact LeO.refl _)
      | (with_reducible exact LeO.none _)
      | (with_reducible refine LeO.ite ?_ ?_)
      | (with_reducible refine LeO.bind ?_ (fun _ => ?_))
      | exact ih0 _ _ _ _ _ _ _ _ _ _ _
      | exact ih1 _ _ _ _ _ _ _ _ _ _ _ _ _
      | exact nums_Compare.mono _ _ _
      | exact LeO.none _
      | refine LeO.ite ?_ ?_
      | refine LeO.bind ?_ (fun _ => ?_)
set_option maxHeartbeats 8000000 in
set_option maxRecDepth 100000 in
theorem parts_Check.calls (k : Nat) (a0_0 : Int) (a0_1 : Int) (A0_2 : Option Addr) (c0_2 : Nat) (l0_2 : List ByteArray) (a0_3 : Bool) (a0_4 : Int) (a0_5 : Int) (a0_6 : Int) (a0_7 : Int) (a0_8 : Int) (a0_9 : Int) (r : Int) (w : World) (hr0_2 : Kd.C Kd.string w A0_2 l0_2.length l0_2) (hc0_2 : l0_2.length ≤ c0_2) (h : parts_Check.f k a0_0 a0_1 l0_2 a0_3 a0_4 a0_5 a0_6 a0_7 a0_8 a0_9 = some r) :
    Calls Try.prog 20 #[.agg #[.int .i64 a0_0, .int .i64 a0_1, .slice A0_2 l0_2.length c0_2, .bool a0_3, .int .i64 a0_4, .int .i64 a0_5, .int .i64 a0_6, .int .i64 a0_7, .int .i64 a0_8, .int .i64 a0_9]] w fun e w' => e = .returned (.int .i64 r) ∧ Below w.heap.size w w' := by
  have hu28 := Try.underlying28
  have HR0_2 := Aside0.mk hr0_2
  have HC0_2 := Aside0.mk hc0_2
  clear hr0_2 hc0_2
  have HB := Aside0.mk (Below.refl w.heap.size w)
  have H : ((parts_good.f a0_1).bind fun t122 => (if t122 = true then (if (l0_2.length : Int) > 0 then (parts_Check.j0 k ((l0_2.length : Int) != (wrap64 (a0_1 - 1))) a0_0 a0_1 l0_2 a0_3 a0_4 a0_5 a0_6 a0_7 a0_8 a0_9) else (parts_Check.j0 k false a0_0 a0_1 l0_2 a0_3 a0_4 a0_5 a0_6 a0_7 a0_8 a0_9)) else (some 3))) = some r := h
  clear h
  replace H := Option.bind_eq_some_iff.mp H
  obtain ⟨t122, A20, H⟩ := H
  replace H : (if t122 = true then (if (l0_2.length : Int) > 0 then (parts_Check.j0 k ((l0_2.length : Int) != (wrap64 (a0_1 - 1))) a0_0 a0_1 l0_2 a0_3 a0_4 a0_5 a0_6 a0_7 a0_8 a0_9) else (parts_Check.j0 k false a0_0 a0_1 l0_2 a0_3 a0_4 a0_5 a0_6 a0_7 a0_8 a0_9)) else (some 3)) = some r := H
  have A2 := Aside0.mk A20
  clear A20
  by_cases c3 : t122 = true
  · subst c3
    have H1 : (if (l0_2.length : Int) > 0 then (parts_Check.j0 k ((l0_2.length : Int) != (wrap64 (a0_1 - 1))) a0_0 a0_1 l0_2 a0_3 a0_4 a0_5 a0_6 a0_7 a0_8 a0_9) else (parts_Check.j0 k false a0_0 a0_1 l0_2 a0_3 a0_4 a0_5 a0_6 a0_7 a0_8 a0_9)) = some r := by rw [if_pos rfl] at H; exact H
    clear H
    have H := H1
    clear H1
    have HC4 := Aside0.mk H
    clear H
    go_enter Try.func20, Try.ntmps20
    go_upto_region 3 with (first | ((with_reducible refine gate_dst (N := 1) rfl ?_); (try (refine gate_guard (by rfl) ?_; dsimp only)); refine box_event ?hg (N := 1) ?hd (cs := #[.int .i64 a0_0, .int .i64 a0_1, .slice A0_2 l0_2.length c0_2, .bool a0_3, .int .i64 a0_4, .int .i64 a0_5, .int .i64 a0_6, .int .i64 a0_7, .int .i64 a0_8, .int .i64 a0_9]) (t := 28) ?hr ?_; (case hd => rfl); (case hg => rfl); (case hr => first | (go_simp; done) | (go_simp; rfl)); intro gb121 hg w5 hbox hb; have n0_ := Aside0.mk (below_step (by repeat (first | (with_reducible first | exact HB.out | apply below_alloc | apply pw_below_drewN | apply below_drew1) | exact HB.out)) hb); have n1_ := Aside0.mk (hbox); have n2_ := Aside0.mk ((by rw [hg]; exact (below_size (by repeat (first | (with_reducible first | exact HB.out | apply below_alloc | apply pw_below_drewN | apply below_drew1) | exact HB.out))) : w.heap.size ≤ gb121)); have n3_ := Aside0.mk ((by rw [hg]; exact (below_size (by repeat (first | (with_reducible first | exact HB.out | apply below_alloc | apply pw_below_drewN | apply below_drew1) | exact HB.out))) : w.heap.size ≤ gb121)); clear HB; have HB := n0_; have BK121 := n1_; have GW121 := n2_; have GE121 := n3_; clear n0_ n1_ n2_ n3_; clear hb hbox hg; have hcz6_0 : w5.cell? ⟨gb121, 0, none⟩ = some (.int .i64 a0_0) := (blk_cell BK121.out 0).trans rfl; have hcz6_1 : w5.cell? ⟨gb121, 1, none⟩ = some (.int .i64 a0_1) := (blk_cell BK121.out 1).trans rfl; have hcz6_2 : w5.cell? ⟨gb121, 2, none⟩ = some (.slice A0_2 l0_2.length c0_2) := (blk_cell BK121.out 2).trans rfl; have hcz6_3 : w5.cell? ⟨gb121, 3, none⟩ = some (.bool a0_3) := (blk_cell BK121.out 3).trans rfl; have hcz6_4 : w5.cell? ⟨gb121, 4, none⟩ = some (.int .i64 a0_4) := (blk_cell BK121.out 4).trans rfl; have hcz6_5 : w5.cell? ⟨gb121, 5, none⟩ = some (.int .i64 a0_5) := (blk_cell BK121.out 5).trans rfl; have hcz6_6 : w5.cell? ⟨gb121, 6, none⟩ = some (.int .i64 a0_6) := (blk_cell BK121.out 6).trans rfl; have hcz6_7 : w5.cell? ⟨gb121, 7, none⟩ = some (.int .i64 a0_7) := (blk_cell BK121.out 7).trans rfl; have hcz6_8 : w5.cell? ⟨gb121, 8, none⟩ = some (.int .i64 a0_8) := (blk_cell BK121.out 8).trans rfl; have hcz6_9 : w5.cell? ⟨gb121, 9, none⟩ = some (.int .i64 a0_9) := (blk_cell BK121.out 9).trans rfl; have hfz6_0 := blk_frozen BK121.out 0; have hfz6_1 := blk_frozen BK121.out 1; have hfz6_2 := blk_frozen BK121.out 2; have hfz6_3 := blk_frozen BK121.out 3; have hfz6_4 := blk_frozen BK121.out 4; have hfz6_5 := blk_frozen BK121.out 5; have hfz6_6 := blk_frozen BK121.out 6; have hfz6_7 := blk_frozen BK121.out 7; have hfz6_8 := blk_frozen BK121.out 8; have hfz6_9 := blk_frozen BK121.out 9) | ((with_reducible refine gate_callee (f := 22) rfl ?_); refine goesL_ (some 7) rfl rfl Try.func22 (by kernel_rfl) rfl #[.int .i64 a0_1] rfl (by (try simp only [List.map_toArray, List.map_cons, List.map_nil]); first | done | rfl | (simp only [List.length_drop, List.length_take]; rfl)) ?_; (with_reducible refine (parts_good.calls a0_1 true _ A2.out).mono ?_); rintro e w' ⟨rfl, ⟨nd, rfl⟩⟩; refine ⟨_, rfl, ?_⟩))
    (try simp only [Act.put, List.setIfInBounds_toArray, List.set_cons_zero, List.set_cons_succ])
    go_cut [21] (fun v21 wc => ∃ (kq : Nat) (x21_3 : Bool), v21 = .bool x21_3 ∧ Aside0 (parts_Check.j0 kq x21_3 a0_0 a0_1 l0_2 a0_3 a0_4 a0_5 a0_6 a0_7 a0_8 a0_9 = some r) ∧ Aside0 (kq ≤ k) ∧ Aside0 (wc.heap[gb121]? = some (.cells #[.int .i64 a0_0, .int .i64 a0_1, (.slice A0_2 l0_2.length c0_2), .bool a0_3, .int .i64 a0_4, .int .i64 a0_5, .int .i64 a0_6, .int .i64 a0_7, .int .i64 a0_8, .int .i64 a0_9] 28 (0, 0))) ∧ Aside0 (Below w.heap.size w wc))
    case first =>
      have H := HC4.out
      clear HC4
      by_cases c7 : (l0_2.length : Int) > 0
      · rw [if_pos c7] at H
        have c7b0 : decide (0 < (l0_2.length : Int)) = true := decide_eq_true c7
        have c7b1 : decide (0 < l0_2.length) = true := decide_eq_true (by omega)
        clear c7
        (first | rw [c7b0] | (simp only [i64_w, i32_w]; rw [c7b0]) | skip)
        have H' := Aside0.mk H
        clear H
        have hcz8_0 : w5.cell? ⟨gb121, 0, none⟩ = some (.int .i64 a0_0) := (blk_cell BK121.out 0).trans rfl
        have hcz8_1 : w5.cell? ⟨gb121, 1, none⟩ = some (.int .i64 a0_1) := (blk_cell BK121.out 1).trans rfl
        have hcz8_2 : w5.cell? ⟨gb121, 2, none⟩ = some (.slice A0_2 l0_2.length c0_2) := (blk_cell BK121.out 2).trans rfl
        have hcz8_3 : w5.cell? ⟨gb121, 3, none⟩ = some (.bool a0_3) := (blk_cell BK121.out 3).trans rfl
        have hcz8_4 : w5.cell? ⟨gb121, 4, none⟩ = some (.int .i64 a0_4) := (blk_cell BK121.out 4).trans rfl
        have hcz8_5 : w5.cell? ⟨gb121, 5, none⟩ = some (.int .i64 a0_5) := (blk_cell BK121.out 5).trans rfl
        have hcz8_6 : w5.cell? ⟨gb121, 6, none⟩ = some (.int .i64 a0_6) := (blk_cell BK121.out 6).trans rfl
        have hcz8_7 : w5.cell? ⟨gb121, 7, none⟩ = some (.int .i64 a0_7) := (blk_cell BK121.out 7).trans rfl
        have hcz8_8 : w5.cell? ⟨gb121, 8, none⟩ = some (.int .i64 a0_8) := (blk_cell BK121.out 8).trans rfl
        have hcz8_9 : w5.cell? ⟨gb121, 9, none⟩ = some (.int .i64 a0_9) := (blk_cell BK121.out 9).trans rfl
        have hfz8_0 := blk_frozen BK121.out 0
        have hfz8_1 := blk_frozen BK121.out 1
        have hfz8_2 := blk_frozen BK121.out 2
        have hfz8_3 := blk_frozen BK121.out 3
        have hfz8_4 := blk_frozen BK121.out 4
        have hfz8_5 := blk_frozen BK121.out 5
        have hfz8_6 := blk_frozen BK121.out 6
        have hfz8_7 := blk_frozen BK121.out 7
        have hfz8_8 := blk_frozen BK121.out 8
        have hfz8_9 := blk_frozen BK121.out 9
        go_wp2
        go_meet
        case rel => exact ⟨_, (((l0_2.length : Int) != (wrap64 (a0_1 - 1)))), (by first | rfl | (simp; done) | (simp [*]; done)), H', ⟨by first | omega | exact Nat.le_refl _⟩, ⟨by (with_reducible repeat (first | refine blk_drewN ?_ _ | refine blk_drew ?_ | refine blk_alloc ?_ _)); exact BK121.out⟩, ⟨by repeat (first | (with_reducible first | exact HB.out | apply below_alloc | apply pw_below_drewN | apply below_drew1 | refine below_set ?_ GE121.out) | exact HB.out)⟩⟩
      · rw [if_neg c7] at H
        have c7b0 : decide (0 < (l0_2.length : Int)) = false := decide_eq_false c7
        have c7b1 : decide (0 < l0_2.length) = false := decide_eq_false (by omega)
        clear c7
        (first | rw [c7b0] | (simp only [i64_w, i32_w]; rw [c7b0]) | skip)
        have H' := Aside0.mk H
        clear H
        have hcz9_0 : w5.cell? ⟨gb121, 0, none⟩ = some (.int .i64 a0_0) := (blk_cell BK121.out 0).trans rfl
        have hcz9_1 : w5.cell? ⟨gb121, 1, none⟩ = some (.int .i64 a0_1) := (blk_cell BK121.out 1).trans rfl
        have hcz9_2 : w5.cell? ⟨gb121, 2, none⟩ = some (.slice A0_2 l0_2.length c0_2) := (blk_cell BK121.out 2).trans rfl
        have hcz9_3 : w5.cell? ⟨gb121, 3, none⟩ = some (.bool a0_3) := (blk_cell BK121.out 3).trans rfl
        have hcz9_4 : w5.cell? ⟨gb121, 4, none⟩ = some (.int .i64 a0_4) := (blk_cell BK121.out 4).trans rfl
        have hcz9_5 : w5.cell? ⟨gb121, 5, none⟩ = some (.int .i64 a0_5) := (blk_cell BK121.out 5).trans rfl
        have hcz9_6 : w5.cell? ⟨gb121, 6, none⟩ = some (.int .i64 a0_6) := (blk_cell BK121.out 6).trans rfl
        have hcz9_7 : w5.cell? ⟨gb121, 7, none⟩ = some (.int .i64 a0_7) := (blk_cell BK121.out 7).trans rfl
        have hcz9_8 : w5.cell? ⟨gb121, 8, none⟩ = some (.int .i64 a0_8) := (blk_cell BK121.out 8).trans rfl
        have hcz9_9 : w5.cell? ⟨gb121, 9, none⟩ = some (.int .i64 a0_9) := (blk_cell BK121.out 9).trans rfl
        have hfz9_0 := blk_frozen BK121.out 0
        have hfz9_1 := blk_frozen BK121.out 1
        have hfz9_2 := blk_frozen BK121.out 2
        have hfz9_3 := blk_frozen BK121.out 3
        have hfz9_4 := blk_frozen BK121.out 4
        have hfz9_5 := blk_frozen BK121.out 5
        have hfz9_6 := blk_frozen BK121.out 6
        have hfz9_7 := blk_frozen BK121.out 7
        have hfz9_8 := blk_frozen BK121.out 8
        have hfz9_9 := blk_frozen BK121.out 9
        go_wp2
        go_meet
        case rel => exact ⟨_, (false), (by first | rfl | (simp; done) | (simp [*]; done)), H', ⟨by first | omega | exact Nat.le_refl _⟩, ⟨by (with_reducible repeat (first | refine blk_drewN ?_ _ | refine blk_drew ?_ | refine blk_alloc ?_ _)); exact BK121.out⟩, ⟨by repeat (first | (with_reducible first | exact HB.out | apply below_alloc | apply pw_below_drewN | apply below_drew1 | refine below_set ?_ GE121.out) | exact HB.out)⟩⟩
    case rest =>
      clear HC4
      try clear c2
      try clear p2
      try clear c3
      try clear p6
      try clear c7
      try clear c7b0
      try clear c7b1
      try clear hcz6_0
      try clear hcz6_1
      try clear hcz6_2
      try clear hcz6_3
      try clear hcz6_4
      try clear hcz6_5
      try clear hcz6_6
      try clear hcz6_7
      try clear hcz6_8
      try clear hcz6_9
      try clear hcz8_0
      try clear hcz8_1
      try clear hcz8_2
      try clear hcz8_3
      try clear hcz8_4
      try clear hcz8_5
      try clear hcz8_6
      try clear hcz8_7
      try clear hcz8_8
      try clear hcz8_9
      try clear hcz9_0
      try clear hcz9_1
      try clear hcz9_2
      try clear hcz9_3
      try clear hcz9_4
      try clear hcz9_5
      try clear hcz9_6
      try clear hcz9_7
      try clear hcz9_8
      try clear hcz9_9
      try clear hfz6_0
      try clear hfz6_1
      try clear hfz6_2
      try clear hfz6_3
      try clear hfz6_4
      try clear hfz6_5
      try clear hfz6_6
      try clear hfz6_7
      try clear hfz6_8
      try clear hfz6_9
      try clear hfz8_0
      try clear hfz8_1
      try clear hfz8_2
      try clear hfz8_3
      try clear hfz8_4
      try clear hfz8_5
      try clear hfz8_6
      try clear hfz8_7
      try clear hfz8_8
      try clear hfz8_9
      try clear hfz9_0
      try clear hfz9_1
      try clear hfz9_2
      try clear hfz9_3
      try clear hfz9_4
      try clear hfz9_5
      try clear hfz9_6
      try clear hfz9_7
      try clear hfz9_8
      try clear hfz9_9
      obtain ⟨kq, x21_3, rfl, HA, HJ3, BK121, HB⟩ := hcut
      cases kq with
      | zero => exact absurd HA.out (by simp [parts_Check.j0])
      | succ kj3 =>
        have H := HA.out
        clear HA
        simp only [parts_Check.j0] at H
        by_cases c10 : x21_3 = true
        · subst c10
          have H1 : (some 140) = some r := by rw [if_pos rfl] at H; exact H
          clear H
          have H := H1
          clear H1
          obtain rfl := Option.some.inj H
          go_wp2
          go_ret
          exact ⟨by first | rfl | (simp [errW_none, errW_some] <;> rfl) | (simp [*, errW_none, errW_some] <;> rfl), by repeat (first | (with_reducible first | exact HB.out | apply below_alloc | apply pw_below_drewN | apply below_drew1 | refine below_set ?_ GE121.out) | exact HB.out)⟩
        · replace c10 := Bool.eq_false_iff.mpr c10
          subst c10
          have H1 : (parts_Check.l0 kj3 l0_2 (l0_2.length : Int) 0 a0_0 a0_1 l0_2 a0_3 a0_4 a0_5 a0_6 a0_7 a0_8 a0_9) = some r := by rw [if_neg (show ¬ (false = true) by decide)] at H; exact H
          clear H
          have H := H1
          clear H1
          have H' := Aside0.mk H
          clear H
          have hcz11_0 : wc.cell? ⟨gb121, 0, none⟩ = some (.int .i64 a0_0) := (blk_cell BK121.out 0).trans rfl
          have hcz11_1 : wc.cell? ⟨gb121, 1, none⟩ = some (.int .i64 a0_1) := (blk_cell BK121.out 1).trans rfl
          have hcz11_2 : wc.cell? ⟨gb121, 2, none⟩ = some (.slice A0_2 l0_2.length c0_2) := (blk_cell BK121.out 2).trans rfl
          have hcz11_3 : wc.cell? ⟨gb121, 3, none⟩ = some (.bool a0_3) := (blk_cell BK121.out 3).trans rfl
          have hcz11_4 : wc.cell? ⟨gb121, 4, none⟩ = some (.int .i64 a0_4) := (blk_cell BK121.out 4).trans rfl
          have hcz11_5 : wc.cell? ⟨gb121, 5, none⟩ = some (.int .i64 a0_5) := (blk_cell BK121.out 5).trans rfl
          have hcz11_6 : wc.cell? ⟨gb121, 6, none⟩ = some (.int .i64 a0_6) := (blk_cell BK121.out 6).trans rfl
          have hcz11_7 : wc.cell? ⟨gb121, 7, none⟩ = some (.int .i64 a0_7) := (blk_cell BK121.out 7).trans rfl
          have hcz11_8 : wc.cell? ⟨gb121, 8, none⟩ = some (.int .i64 a0_8) := (blk_cell BK121.out 8).trans rfl
          have hcz11_9 : wc.cell? ⟨gb121, 9, none⟩ = some (.int .i64 a0_9) := (blk_cell BK121.out 9).trans rfl
          have hfz11_0 := blk_frozen BK121.out 0
          have hfz11_1 := blk_frozen BK121.out 1
          have hfz11_2 := blk_frozen BK121.out 2
          have hfz11_3 := blk_frozen BK121.out 3
          have hfz11_4 := blk_frozen BK121.out 4
          have hfz11_5 := blk_frozen BK121.out 5
          have hfz11_6 := blk_frozen BK121.out 6
          have hfz11_7 := blk_frozen BK121.out 7
          have hfz11_8 := blk_frozen BK121.out 8
          have hfz11_9 := blk_frozen BK121.out 9
          go_wp2
          go_loopg [25] kj3 (fun kq v25 w' => ∃ (x25_2 : Int), v25 = .int .i64 x25_2 ∧ Aside0 (parts_Check.l0 kq l0_2 (l0_2.length : Int) x25_2 a0_0 a0_1 l0_2 a0_3 a0_4 a0_5 a0_6 a0_7 a0_8 a0_9 = some r) ∧ Aside0 (kq ≤ kj3) ∧ Aside0 (w'.heap[gb121]? = some (.cells #[.int .i64 a0_0, .int .i64 a0_1, (.slice A0_2 l0_2.length c0_2), .bool a0_3, .int .i64 a0_4, .int .i64 a0_5, .int .i64 a0_6, .int .i64 a0_7, .int .i64 a0_8, .int .i64 a0_9] 28 (0, 0))) ∧ Aside0 (Below w.heap.size w w'))
          case atStart => exact ⟨(0), (by first | rfl | (simp; done) | (simp [*]; done)), H', ⟨Nat.le_refl _⟩, ⟨by (with_reducible repeat (first | refine blk_drewN ?_ _ | refine blk_drew ?_ | refine blk_alloc ?_ _)); exact BK121.out⟩, ⟨by repeat (first | (with_reducible first | exact HB.out | apply below_alloc | apply pw_below_drewN | apply below_drew1 | refine below_set ?_ GE121.out) | exact HB.out)⟩⟩
          case round =>
            clear H'
            try clear c1
            try clear c2
            try clear p2
            try clear c3
            try clear p6
            try clear c7
            try clear c7b0
            try clear c7b1
            try clear c10
            try clear hcz11_0
            try clear hcz11_1
            try clear hcz11_2
            try clear hcz11_3
            try clear hcz11_4
            try clear hcz11_5
            try clear hcz11_6
            try clear hcz11_7
            try clear hcz11_8
            try clear hcz11_9
            try clear hcz6_0
            try clear hcz6_1
            try clear hcz6_2
            try clear hcz6_3
            try clear hcz6_4
            try clear hcz6_5
            try clear hcz6_6
            try clear hcz6_7
            try clear hcz6_8
            try clear hcz6_9
            try clear hcz8_0
            try clear hcz8_1
            try clear hcz8_2
            try clear hcz8_3
            try clear hcz8_4
            try clear hcz8_5
            try clear hcz8_6
            try clear hcz8_7
            try clear hcz8_8
            try clear hcz8_9
            try clear hcz9_0
            try clear hcz9_1
            try clear hcz9_2
            try clear hcz9_3
            try clear hcz9_4
            try clear hcz9_5
            try clear hcz9_6
            try clear hcz9_7
            try clear hcz9_8
            try clear hcz9_9
            try clear hfz11_0
            try clear hfz11_1
            try clear hfz11_2
            try clear hfz11_3
            try clear hfz11_4
            try clear hfz11_5
            try clear hfz11_6
            try clear hfz11_7
            try clear hfz11_8
            try clear hfz11_9
            try clear hfz6_0
            try clear hfz6_1
            try clear hfz6_2
            try clear hfz6_3
            try clear hfz6_4
            try clear hfz6_5
            try clear hfz6_6
            try clear hfz6_7
            try clear hfz6_8
            try clear hfz6_9
            try clear hfz8_0
            try clear hfz8_1
            try clear hfz8_2
            try clear hfz8_3
            try clear hfz8_4
            try clear hfz8_5
            try clear hfz8_6
            try clear hfz8_7
            try clear hfz8_8
            try clear hfz8_9
            try clear hfz9_0
            try clear hfz9_1
            try clear hfz9_2
            try clear hfz9_3
            try clear hfz9_4
            try clear hfz9_5
            try clear hfz9_6
            try clear hfz9_7
            try clear hfz9_8
            try clear hfz9_9
            try clear p2
            try clear p6
            obtain ⟨x25_2, rfl, HA, HK2, BK121, HB⟩ := hrel
            cases gk with
            | zero => exact absurd HA.out (by simp [parts_Check.l0])
            | succ k2 =>
              have H := HA.out
              clear HA
              simp only [parts_Check.l0] at H
              by_cases c12 : x25_2 < (l0_2.length : Int)
              · rw [if_pos c12] at H
                have c12b0 : decide (x25_2 < (l0_2.length : Int)) = true := decide_eq_true c12
                clear c12
                by_cases c13 : 0 ≤ x25_2
                · rw [if_pos c13] at H
                  have c13b0 : decide (0 ≤ x25_2) = true := decide_eq_true c13
                  clear c13
                  by_cases c14 : x25_2 < (l0_2.length : Int)
                  · rw [if_pos c14] at H
                    have c14b0 : decide (x25_2 < (l0_2.length : Int)) = true := decide_eq_true c14
                    clear c14
                    by_cases c15 : ((rdOf ByteArray.empty l0_2 x25_2).size : Int) > 1024
                    · rw [if_pos c15] at H
                      have c15b0 : decide (1024 < ((rdOf ByteArray.empty l0_2 x25_2).size : Int)) = true := decide_eq_true c15
                      have c15b1 : decide (1024 < (rdOf ByteArray.empty l0_2 x25_2).size) = true := decide_eq_true (by omega)
                      clear c15
                      obtain rfl := Option.some.inj H
                      have p123 : 0 ≤ (x25_2 : Int) := of_decide_eq_true (by first | (with_reducible assumption) | assumption)
                      have q123 : x25_2 < (l0_2.length : Int) := of_decide_eq_true (by first | (with_reducible assumption) | assumption)
                      obtain ⟨ad123, e123, hx123_0⟩ := Kd.at_string HR0_2.out x25_2 p123 q123
                      cases e123
                      replace hx123_0 := (HB.out.cell (World.block_lt_of_cell? w _ hx123_0)).trans hx123_0
                      replace p123 := eq_true p123
                      replace q123 := eq_true q123
                      go_wp2
                      go_ret
                      exact ⟨by first | rfl | (simp [errW_none, errW_some] <;> rfl) | (simp [*, errW_none, errW_some] <;> rfl), by repeat (first | (with_reducible first | exact HB.out | apply below_alloc | apply pw_below_drewN | apply below_drew1 | refine below_set ?_ GE121.out) | exact HB.out)⟩
                    · rw [if_neg c15] at H
                      have c15b0 : decide (1024 < ((rdOf ByteArray.empty l0_2 x25_2).size : Int)) = false := decide_eq_false c15
                      have c15b1 : decide (1024 < (rdOf ByteArray.empty l0_2 x25_2).size) = false := decide_eq_false (by omega)
                      clear c15
                      by_cases c16 : x25_2 > 0
                      · rw [if_pos c16] at H
                        have c16b0 : decide (0 < x25_2) = true := decide_eq_true c16
                        clear c16
                        obtain ⟨ji17, hji17⟩ : ∃ j_ : Int, (wrap64 (x25_2 - 1)) = j_ := ⟨_, rfl⟩
                        replace H : (if 0 ≤ (ji17) then (if (ji17) < (l0_2.length : Int) then ((nums_Compare.f k2 (rdOf ByteArray.empty l0_2 x25_2) (rdOf ByteArray.empty l0_2 (ji17))).bind fun t125 => (if t125 < 0 then (some 140) else (parts_Check.l0 k2 l0_2 (l0_2.length : Int) (wrap64 (x25_2 + 1)) a0_0 a0_1 l0_2 a0_3 a0_4 a0_5 a0_6 a0_7 a0_8 a0_9))) else (none)) else (none)) = some r := by first | (rw [hji17] at H; exact H) | (simp only [hji17] at H ⊢; exact H)
                        have hji17w : (IntKind.i64.wrap (x25_2 - 1)) = ji17 := (i64_w _).trans hji17
                        by_cases c18 : 0 ≤ (ji17)
                        · rw [if_pos c18] at H
                          have c18b0 : decide (0 ≤ (ji17)) = true := decide_eq_true c18
                          clear c18
                          by_cases c19 : (ji17) < (l0_2.length : Int)
                          · rw [if_pos c19] at H
                            have c19b0 : decide ((ji17) < (l0_2.length : Int)) = true := decide_eq_true c19
                            clear c19
                            replace H := Option.bind_eq_some_iff.mp H
                            obtain ⟨t125, A200, H⟩ := H
                            replace H : (if t125 < 0 then (some 140) else (parts_Check.l0 k2 l0_2 (l0_2.length : Int) (wrap64 (x25_2 + 1)) a0_0 a0_1 l0_2 a0_3 a0_4 a0_5 a0_6 a0_7 a0_8 a0_9)) = some r := H
                            have A20 := Aside0.mk A200
                            clear A200
                            by_cases c21 : t125 < 0
                            · rw [if_pos c21] at H
                              have c21b0 : decide (t125 < 0) = true := decide_eq_true c21
                              clear c21
                              obtain rfl := Option.some.inj H
                              have p123 : 0 ≤ (x25_2 : Int) := of_decide_eq_true (by first | (with_reducible assumption) | assumption)
                              have q123 : x25_2 < (l0_2.length : Int) := of_decide_eq_true (by first | (with_reducible assumption) | assumption)
                              obtain ⟨ad123, e123, hx123_0⟩ := Kd.at_string HR0_2.out x25_2 p123 q123
                              cases e123
                              replace hx123_0 := (HB.out.cell (World.block_lt_of_cell? w _ hx123_0)).trans hx123_0
                              replace p123 := eq_true p123
                              replace q123 := eq_true q123
                              have hcz22_0 : wr.cell? ⟨gb121, 0, none⟩ = some (.int .i64 a0_0) := (blk_cell BK121.out 0).trans rfl
                              have hcz22_1 : wr.cell? ⟨gb121, 1, none⟩ = some (.int .i64 a0_1) := (blk_cell BK121.out 1).trans rfl
                              have hcz22_2 : wr.cell? ⟨gb121, 2, none⟩ = some (.slice (some ad123) l0_2.length c0_2) := (blk_cell BK121.out 2).trans rfl
                              have hcz22_3 : wr.cell? ⟨gb121, 3, none⟩ = some (.bool a0_3) := (blk_cell BK121.out 3).trans rfl
                              have hcz22_4 : wr.cell? ⟨gb121, 4, none⟩ = some (.int .i64 a0_4) := (blk_cell BK121.out 4).trans rfl
                              have hcz22_5 : wr.cell? ⟨gb121, 5, none⟩ = some (.int .i64 a0_5) := (blk_cell BK121.out 5).trans rfl
                              have hcz22_6 : wr.cell? ⟨gb121, 6, none⟩ = some (.int .i64 a0_6) := (blk_cell BK121.out 6).trans rfl
                              have hcz22_7 : wr.cell? ⟨gb121, 7, none⟩ = some (.int .i64 a0_7) := (blk_cell BK121.out 7).trans rfl
                              have hcz22_8 : wr.cell? ⟨gb121, 8, none⟩ = some (.int .i64 a0_8) := (blk_cell BK121.out 8).trans rfl
                              have hcz22_9 : wr.cell? ⟨gb121, 9, none⟩ = some (.int .i64 a0_9) := (blk_cell BK121.out 9).trans rfl
                              have hfz22_0 := blk_frozen BK121.out 0
                              have hfz22_1 := blk_frozen BK121.out 1
                              have hfz22_2 := blk_frozen BK121.out 2
                              have hfz22_3 := blk_frozen BK121.out 3
                              have hfz22_4 := blk_frozen BK121.out 4
                              have hfz22_5 := blk_frozen BK121.out 5
                              have hfz22_6 := blk_frozen BK121.out 6
                              have hfz22_7 := blk_frozen BK121.out 7
                              have hfz22_8 := blk_frozen BK121.out 8
                              have hfz22_9 := blk_frozen BK121.out 9
                              have p124 : 0 ≤ ((ji17) : Int) := of_decide_eq_true (by first | (with_reducible assumption) | assumption)
                              have q124 : (ji17) < (l0_2.length : Int) := of_decide_eq_true (by first | (with_reducible assumption) | assumption)
                              obtain ⟨ad124, e124, hx124_0⟩ := Kd.at_string HR0_2.out (ji17) p124 q124
                              obtain rfl : ad123 = ad124 := (by injection e124)
                              replace hx124_0 := (HB.out.cell (World.block_lt_of_cell? w _ hx124_0)).trans hx124_0
                              replace p124 := eq_true p124
                              replace q124 := eq_true q124
                              go_wp2_with (first | (go_at_call 19; (with_reducible refine (nums_Compare.calls k2 (rdOf ByteArray.empty l0_2 x25_2) (rdOf ByteArray.empty l0_2 (ji17)) t125 _ A20.out).mono ?_); rintro e w23 ⟨rfl, hb⟩; have n0_ := Aside0.mk (blk_below (g := gb121) (o := .cells #[.int .i64 a0_0, .int .i64 a0_1, .slice (some ad123) l0_2.length c0_2, .bool a0_3, .int .i64 a0_4, .int .i64 a0_5, .int .i64 a0_6, .int .i64 a0_7, .int .i64 a0_8, .int .i64 a0_9] 28 (0, 0)) (by (with_reducible repeat (first | refine blk_drewN ?_ _ | refine blk_drew ?_ | refine blk_alloc ?_ _)); exact BK121.out) hb); have n1_ := Aside0.mk (below_step (by repeat (first | (with_reducible first | exact HB.out | apply below_alloc | apply pw_below_drewN | apply below_drew1 | refine below_set ?_ GE121.out) | exact HB.out)) hb); clear BK121; clear HB; have BK121 := n0_; have HB := n1_; clear n0_ n1_; (try clear hb); (try clear hb2); (try clear hk); (try clear hi)))
                              go_ret
                              exact ⟨by first | rfl | (simp [errW_none, errW_some] <;> rfl) | (simp only [← hji17]; first | rfl | (simp [errW_none, errW_some] <;> rfl)) | (simp [*, errW_none, errW_some] <;> rfl), by repeat (first | (with_reducible first | exact HB.out | apply below_alloc | apply pw_below_drewN | apply below_drew1 | refine below_set ?_ GE121.out) | exact HB.out)⟩
                            · rw [if_neg c21] at H
                              have c21b0 : decide (t125 < 0) = false := decide_eq_false c21
                              clear c21
                              have H' := Aside0.mk H
                              clear H
                              have p123 : 0 ≤ (x25_2 : Int) := of_decide_eq_true (by first | (with_reducible assumption) | assumption)
                              have q123 : x25_2 < (l0_2.length : Int) := of_decide_eq_true (by first | (with_reducible assumption) | assumption)
                              obtain ⟨ad123, e123, hx123_0⟩ := Kd.at_string HR0_2.out x25_2 p123 q123
                              cases e123
                              replace hx123_0 := (HB.out.cell (World.block_lt_of_cell? w _ hx123_0)).trans hx123_0
                              replace p123 := eq_true p123
                              replace q123 := eq_true q123
                              have hcz24_0 : wr.cell? ⟨gb121, 0, none⟩ = some (.int .i64 a0_0) := (blk_cell BK121.out 0).trans rfl
                              have hcz24_1 : wr.cell? ⟨gb121, 1, none⟩ = some (.int .i64 a0_1) := (blk_cell BK121.out 1).trans rfl
                              have hcz24_2 : wr.cell? ⟨gb121, 2, none⟩ = some (.slice (some ad123) l0_2.length c0_2) := (blk_cell BK121.out 2).trans rfl
                              have hcz24_3 : wr.cell? ⟨gb121, 3, none⟩ = some (.bool a0_3) := (blk_cell BK121.out 3).trans rfl
                              have hcz24_4 : wr.cell? ⟨gb121, 4, none⟩ = some (.int .i64 a0_4) := (blk_cell BK121.out 4).trans rfl
                              have hcz24_5 : wr.cell? ⟨gb121, 5, none⟩ = some (.int .i64 a0_5) := (blk_cell BK121.out 5).trans rfl
                              have hcz24_6 : wr.cell? ⟨gb121, 6, none⟩ = some (.int .i64 a0_6) := (blk_cell BK121.out 6).trans rfl
                              have hcz24_7 : wr.cell? ⟨gb121, 7, none⟩ = some (.int .i64 a0_7) := (blk_cell BK121.out 7).trans rfl
                              have hcz24_8 : wr.cell? ⟨gb121, 8, none⟩ = some (.int .i64 a0_8) := (blk_cell BK121.out 8).trans rfl
                              have hcz24_9 : wr.cell? ⟨gb121, 9, none⟩ = some (.int .i64 a0_9) := (blk_cell BK121.out 9).trans rfl
                              have hfz24_0 := blk_frozen BK121.out 0
                              have hfz24_1 := blk_frozen BK121.out 1
                              have hfz24_2 := blk_frozen BK121.out 2
                              have hfz24_3 := blk_frozen BK121.out 3
                              have hfz24_4 := blk_frozen BK121.out 4
                              have hfz24_5 := blk_frozen BK121.out 5
                              have hfz24_6 := blk_frozen BK121.out 6
                              have hfz24_7 := blk_frozen BK121.out 7
                              have hfz24_8 := blk_frozen BK121.out 8
                              have hfz24_9 := blk_frozen BK121.out 9
                              have p124 : 0 ≤ ((ji17) : Int) := of_decide_eq_true (by first | (with_reducible assumption) | assumption)
                              have q124 : (ji17) < (l0_2.length : Int) := of_decide_eq_true (by first | (with_reducible assumption) | assumption)
                              obtain ⟨ad124, e124, hx124_0⟩ := Kd.at_string HR0_2.out (ji17) p124 q124
                              obtain rfl : ad123 = ad124 := (by injection e124)
                              replace hx124_0 := (HB.out.cell (World.block_lt_of_cell? w _ hx124_0)).trans hx124_0
                              replace p124 := eq_true p124
                              replace q124 := eq_true q124
                              go_wp2_with (first | (go_at_call 19; (with_reducible refine (nums_Compare.calls k2 (rdOf ByteArray.empty l0_2 x25_2) (rdOf ByteArray.empty l0_2 (ji17)) t125 _ A20.out).mono ?_); rintro e w25 ⟨rfl, hb⟩; have n0_ := Aside0.mk (blk_below (g := gb121) (o := .cells #[.int .i64 a0_0, .int .i64 a0_1, .slice (some ad123) l0_2.length c0_2, .bool a0_3, .int .i64 a0_4, .int .i64 a0_5, .int .i64 a0_6, .int .i64 a0_7, .int .i64 a0_8, .int .i64 a0_9] 28 (0, 0)) (by (with_reducible repeat (first | refine blk_drewN ?_ _ | refine blk_drew ?_ | refine blk_alloc ?_ _)); exact BK121.out) hb); have n1_ := Aside0.mk (below_step (by repeat (first | (with_reducible first | exact HB.out | apply below_alloc | apply pw_below_drewN | apply below_drew1 | refine below_set ?_ GE121.out) | exact HB.out)) hb); clear BK121; clear HB; have BK121 := n0_; have HB := n1_; clear n0_ n1_; (try clear hb); (try clear hb2); (try clear hk); (try clear hi)))
                              go_roundg k2
                              case measure => have := HJ3.out; have := HK2.out; omega
                              case rel => exact ⟨(wrap64 (x25_2 + 1)), (by first | rfl | (simp; done) | (simp [*]; done)), H', ⟨by have := HJ3.out; have := HK2.out; omega⟩, ⟨by (with_reducible repeat (first | refine blk_drewN ?_ _ | refine blk_drew ?_ | refine blk_alloc ?_ _)); exact BK121.out⟩, ⟨by repeat (first | (with_reducible first | exact HB.out | apply below_alloc | apply pw_below_drewN | apply below_drew1 | refine below_set ?_ GE121.out) | exact HB.out)⟩⟩
                          · rw [if_neg c19] at H
                            exact absurd H (by simp)
                        · rw [if_neg c18] at H
                          exact absurd H (by simp)
                      · rw [if_neg c16] at H
                        have c16b0 : decide (0 < x25_2) = false := decide_eq_false c16
                        clear c16
                        have H' := Aside0.mk H
                        clear H
                        have p123 : 0 ≤ (x25_2 : Int) := of_decide_eq_true (by first | (with_reducible assumption) | assumption)
                        have q123 : x25_2 < (l0_2.length : Int) := of_decide_eq_true (by first | (with_reducible assumption) | assumption)
                        obtain ⟨ad123, e123, hx123_0⟩ := Kd.at_string HR0_2.out x25_2 p123 q123
                        cases e123
                        replace hx123_0 := (HB.out.cell (World.block_lt_of_cell? w _ hx123_0)).trans hx123_0
                        replace p123 := eq_true p123
                        replace q123 := eq_true q123
                        go_wp2
                        go_roundg k2
                        case measure => have := HJ3.out; have := HK2.out; omega
                        case rel => exact ⟨(wrap64 (x25_2 + 1)), (by first | rfl | (simp; done) | (simp [*]; done)), H', ⟨by have := HJ3.out; have := HK2.out; omega⟩, ⟨by (with_reducible repeat (first | refine blk_drewN ?_ _ | refine blk_drew ?_ | refine blk_alloc ?_ _)); exact BK121.out⟩, ⟨by repeat (first | (with_reducible first | exact HB.out | apply below_alloc | apply pw_below_drewN | apply below_drew1 | refine below_set ?_ GE121.out) | exact HB.out)⟩⟩
                  · rw [if_neg c14] at H
                    exact absurd H (by simp)
                · rw [if_neg c13] at H
                  exact absurd H (by simp)
              · rw [if_neg c12] at H
                have c12b0 : decide (x25_2 < (l0_2.length : Int)) = false := decide_eq_false c12
                clear c12
                obtain rfl := Option.some.inj H
                go_wp2
                go_ret
                exact ⟨by first | rfl | (simp [errW_none, errW_some] <;> rfl) | (simp [*, errW_none, errW_some] <;> rfl), by repeat (first | (with_reducible first | exact HB.out | apply below_alloc | apply pw_below_drewN | apply below_drew1 | refine below_set ?_ GE121.out) | exact HB.out)⟩
  · replace c3 := Bool.eq_false_iff.mpr c3
    subst c3
    have H1 : (some 3) = some r := by rw [if_neg (show ¬ (false = true) by decide)] at H; exact H
    clear H
    have H := H1
    clear H1
    obtain rfl := Option.some.inj H
    go_enter Try.func20, Try.ntmps20
    go_wp2_with (first | ((with_reducible refine gate_dst (N := 1) rfl ?_); (try (refine gate_guard (by rfl) ?_; dsimp only)); refine box_event ?hg (N := 1) ?hd (cs := #[.int .i64 a0_0, .int .i64 a0_1, .slice A0_2 l0_2.length c0_2, .bool a0_3, .int .i64 a0_4, .int .i64 a0_5, .int .i64 a0_6, .int .i64 a0_7, .int .i64 a0_8, .int .i64 a0_9]) (t := 28) ?hr ?_; (case hd => rfl); (case hg => rfl); (case hr => first | (go_simp; done) | (go_simp; rfl)); intro gb121 hg w26 hbox hb; have n0_ := Aside0.mk (below_step (by repeat (first | (with_reducible first | exact HB.out | apply below_alloc | apply pw_below_drewN | apply below_drew1) | exact HB.out)) hb); have n1_ := Aside0.mk (hbox); have n2_ := Aside0.mk ((by rw [hg]; exact (below_size (by repeat (first | (with_reducible first | exact HB.out | apply below_alloc | apply pw_below_drewN | apply below_drew1) | exact HB.out))) : w.heap.size ≤ gb121)); have n3_ := Aside0.mk ((by rw [hg]; exact (below_size (by repeat (first | (with_reducible first | exact HB.out | apply below_alloc | apply pw_below_drewN | apply below_drew1) | exact HB.out))) : w.heap.size ≤ gb121)); clear HB; have HB := n0_; have BK121 := n1_; have GW121 := n2_; have GE121 := n3_; clear n0_ n1_ n2_ n3_; clear hb hbox hg; have hcz27_0 : w26.cell? ⟨gb121, 0, none⟩ = some (.int .i64 a0_0) := (blk_cell BK121.out 0).trans rfl; have hcz27_1 : w26.cell? ⟨gb121, 1, none⟩ = some (.int .i64 a0_1) := (blk_cell BK121.out 1).trans rfl; have hcz27_2 : w26.cell? ⟨gb121, 2, none⟩ = some (.slice A0_2 l0_2.length c0_2) := (blk_cell BK121.out 2).trans rfl; have hcz27_3 : w26.cell? ⟨gb121, 3, none⟩ = some (.bool a0_3) := (blk_cell BK121.out 3).trans rfl; have hcz27_4 : w26.cell? ⟨gb121, 4, none⟩ = some (.int .i64 a0_4) := (blk_cell BK121.out 4).trans rfl; have hcz27_5 : w26.cell? ⟨gb121, 5, none⟩ = some (.int .i64 a0_5) := (blk_cell BK121.out 5).trans rfl; have hcz27_6 : w26.cell? ⟨gb121, 6, none⟩ = some (.int .i64 a0_6) := (blk_cell BK121.out 6).trans rfl; have hcz27_7 : w26.cell? ⟨gb121, 7, none⟩ = some (.int .i64 a0_7) := (blk_cell BK121.out 7).trans rfl; have hcz27_8 : w26.cell? ⟨gb121, 8, none⟩ = some (.int .i64 a0_8) := (blk_cell BK121.out 8).trans rfl; have hcz27_9 : w26.cell? ⟨gb121, 9, none⟩ = some (.int .i64 a0_9) := (blk_cell BK121.out 9).trans rfl; have hfz27_0 := blk_frozen BK121.out 0; have hfz27_1 := blk_frozen BK121.out 1; have hfz27_2 := blk_frozen BK121.out 2; have hfz27_3 := blk_frozen BK121.out 3; have hfz27_4 := blk_frozen BK121.out 4; have hfz27_5 := blk_frozen BK121.out 5; have hfz27_6 := blk_frozen BK121.out 6; have hfz27_7 := blk_frozen BK121.out 7; have hfz27_8 := blk_frozen BK121.out 8; have hfz27_9 := blk_frozen BK121.out 9) | ((with_reducible refine gate_callee (f := 22) rfl ?_); refine goesL_ (some 7) rfl rfl Try.func22 (by kernel_rfl) rfl #[.int .i64 a0_1] rfl (by (try simp only [List.map_toArray, List.map_cons, List.map_nil]); first | done | rfl | (simp only [List.length_drop, List.length_take]; rfl)) ?_; (with_reducible refine (parts_good.calls a0_1 false _ A2.out).mono ?_); rintro e w' ⟨rfl, ⟨nd, rfl⟩⟩; refine ⟨_, rfl, ?_⟩))
    go_ret
    exact ⟨by first | rfl | (simp [errW_none, errW_some] <;> rfl) | (simp [*, errW_none, errW_some] <;> rfl), by repeat (first | (with_reducible first | exact HB.out | apply below_alloc | apply pw_below_drewN | apply below_drew1 | refine below_set ?_ GE121.out) | exact HB.out)⟩

end Go.Proofs.Ytbjlfenappnccaa.P

end
section
/- parts.Of's inner search, a closure over the job and the key: contract by hand. -/
namespace Go.Proofs.Ytbjlfenappnccaa.P
open Go.RowKit Go.Proofs.YtbjlfenappnccaaW.PrintWords Go.Proofs.YtbjlfenappnccaaW.PrintLast Go.Proofs.YtbjlfenappnccaaW.PrintMore Go.Proofs.Ytbjlfenappnccaa.Hand
set_option linter.unusedVariables false
set_option linter.unusedSimpArgs false

/-- is the bound at or ahead of the key? -/
def atOr (key : ByteArray) (b : ByteArray) : Prop := cmpL b.toList key.toList ≤ 0
theorem succ_eq (q : Nat) (h : q ≤ 140737488351232) : wrap64 ((q : Int) + 1) = ((q + 1 : Nat) : Int) := by unfold wrap64; omega
theorem mid_eq (lo hi q : Nat) (hq : q = (lo + hi) / 2) (h : lo + hi ≤ 281474976710656) : wrap64 (((lo : Int) + (hi : Int)).tdiv 2) = (q : Int) := by
  have e : ((lo : Int) + (hi : Int)).tdiv 2 = ((lo : Int) + (hi : Int)) / 2 := Int.tdiv_eq_ediv_of_nonneg (Int.add_nonneg (Int.natCast_nonneg _) (Int.natCast_nonneg _))
  rw [e]
  have e2 : ((lo : Int) + (hi : Int)) / 2 = (q : Int) := by omega
  rw [e2]
  unfold wrap64
  omega
set_option maxHeartbeats 4000000 in
theorem Search (w : World) (gj gk : Nat) (A : Option Addr) (c n m : Nat) (l : List ByteArray) (key : ByteArray) (hj : w.cell? ⟨gj, 2, none⟩ = some (.slice A n c)) (hk : w.cell? ⟨gk, 0, none⟩ = some (.string key)) (hC : Kd.C Kd.string w A n l) (hn : n = l.length) (hc : n ≤ c)
    (hl : n ≤ 140737488351232) (hx : ∀ b ∈ l, b.size ≤ 140737488351233) (hm : m ≤ n) (hP : ∀ i, (h : i < l.length) → (i < m ↔ atOr key l[i])) :
    Calls Try.prog 33 #[.int .i64 0, .int .i64 n, .pointer (some ⟨gj, 0, none⟩), .pointer (some ⟨gk, 0, none⟩)] w fun e w' => e = .returned (.int .i64 m) ∧ Below w.heap.size w w' := by
  have HJ := Aside0.mk hj
  have HK := Aside0.mk hk
  have HC := Aside0.mk hC
  have HN := Aside0.mk hn
  have HX := Aside0.mk hx
  have HP := Aside0.mk hP
  have HL := Aside0.mk hl
  have HM := Aside0.mk hm
  clear hj hk hC hn hx hP hl hm
  go_enter Try.func33, Try.ntmps33
  go_wp2_with fail
  go_loopw [0, 1] (fun v0 v1 wr => ∃ lo hi : Nat, v0 = .int .i64 lo ∧ v1 = .int .i64 hi ∧ lo ≤ m ∧ m ≤ hi ∧ hi ≤ n ∧ Aside0 (Below w.heap.size w wr)) (fun v0 v1 _ => (intOf v1).toNat - (intOf v0).toNat)
  case atStart => exact ⟨0, n, rfl, rfl, Nat.zero_le _, HM.out, Nat.le_refl _, ⟨Below.refl _ _⟩⟩
  case round =>
    obtain ⟨lo, hi, rfl, rfl, h1, h2, h3, HB⟩ := hrel
    by_cases hlt : lo < hi
    · have hd1 : decide ((lo : Int) < (hi : Int)) = true := by simp; omega
      have hd2 : decide (lo < hi) = true := by simp; omega
      obtain ⟨q, hq⟩ : ∃ q : Nat, q = (lo + hi) / 2 := ⟨_, rfl⟩
      have hqn : q < n := by omega
      have hw1 : IntKind.i64.wrap ((lo : Int) + (hi : Int)) = ((lo + hi : Nat) : Int) := by rw [IntKind.wrap_i64]; have := HL.out; omega
      have hw2 : wrap64 (((lo : Int) + (hi : Int)).tdiv 2) = (q : Int) := mid_eq lo hi q hq (by have := HL.out; omega)
      have hw4 : wrap64 ((q : Int) + 1) = ((q + 1 : Nat) : Int) := succ_eq q (by have := HL.out; omega)
      have HQ2 := Aside0.mk (show lo ≤ q ∧ q < hi by omega)
      clear hq
      have p1 : (0 : Int) ≤ (q : Int) := Int.natCast_nonneg q
      have q1 : (q : Int) < (n : Int) := Int.ofNat_lt.2 hqn
      have d3 : decide ((q : Int) < (n : Int)) = true := decide_eq_true q1
      have d4 : decide (q < n) = true := decide_eq_true hqn
      obtain ⟨ad, e, hx0⟩ := Kd.at_string (Kd.C_below HC.out HB.out) (q : Int) (Int.natCast_nonneg q) (Int.ofNat_lt.2 hqn)
      subst e
      rw [Int.toNat_natCast] at hx0
      have hrd : rdOf ByteArray.empty l (q : Int) = l[q]'(by have := HN.out; omega) := by
        unfold rdOf
        rw [Int.toNat_natCast, List.getD_eq_getElem?_getD, List.getElem?_eq_getElem (by have := HN.out; omega)]
        rfl
      rw [hrd] at hx0
      have HPQ := Aside0.mk (HP.out q (by have := HN.out; omega))
      have HXQ := Aside0.mk (HX.out (l[q]'(by have := HN.out; omega)) (List.getElem_mem _))
      generalize l[q]'(by have := HN.out; omega) = b at hx0 HPQ HXQ
      clear hrd
      have hj0 := cell_kept HJ.out (Kept.of_below HB.out (fun _ => False)) (fun h => h)
      have hk0 := cell_kept HK.out (Kept.of_below HB.out (fun _ => False)) (fun h => h)
      replace p1 := eq_true p1
      replace q1 := eq_true q1
      obtain ⟨cv, hcv⟩ : ∃ cv, cmpL b.toList key.toList = cv := ⟨_, rfl⟩
      have HCV := Aside0.mk hcv
      have GK := Aside0.mk (fun (W : World) => (hcv ▸ nums_Compare.calls (b.size + 1) b key (cmpL b.toList key.toList) W (nums_Compare_eq b key (by have := HXQ.out; omega) _ (by omega)) : Calls Try.prog 19 #[.string b, .string key] W fun e w' => e = .returned (.int .i64 cv) ∧ Below W.heap.size W w'))
      have hB2 := below_drew1 HB.out
      have hM2 : wr.drew.cell? ⟨gj, 2, none⟩ = some (.slice (some ad) n c) ∧ wr.drew.cell? (ad.add q) = some (.string b) ∧ wr.drew.cell? ⟨gk, 0, none⟩ = some (.string key) := ⟨hj0, hx0, hk0⟩
      clear hcv
      generalize hle : decide (cv ≤ 0) = bb
      go_wp2_with fail
      go_region_held3 (fun w' => w'.cell? ⟨gj, 2, none⟩ = some (.slice (some ad) n c) ∧ w'.cell? (ad.add q) = some (.string b) ∧ w'.cell? ⟨gk, 0, none⟩ = some (.string key)) (first | exact hM2 | go_keep) ((go_at_call 19; refine (GK.out _).mono ?_; rintro e w2 ⟨rfl, hBc⟩; replace hM2 := And.intro (cell_kept hM2.1 (Kept.of_below hBc (fun _ => False)) (fun h => h)) (And.intro (cell_kept hM2.2.1 (Kept.of_below hBc (fun _ => False)) (fun h => h)) (cell_kept hM2.2.2 (Kept.of_below hBc (fun _ => False)) (fun h => h))); replace hB2 := below_step hB2 hBc; clear hBc))
      have HB2 := Aside0.mk hB2
      clear hM2 hB2 hx0 hj0 hk0
      cases bb with
      | true =>
        have hP1 : q < m := HPQ.out.2 (by show cmpL b.toList key.toList ≤ 0; rw [HCV.out]; exact of_decide_eq_true hle)
        go_wp2_with fail
        go_roundw
        case rel => exact ⟨q + 1, hi, by rw [hw4], rfl, by omega, h2, h3, HB2⟩
        case measure => rw [hw4]; have := HQ2.out; simp only [intOf, Int.toNat_natCast]; omega
      | false =>
        have hP1 : ¬ q < m := fun h => of_decide_eq_false hle (by rw [← HCV.out]; exact HPQ.out.1 h)
        go_wp2_with fail
        go_roundw
        case rel => exact ⟨lo, q, rfl, rfl, h1, by omega, by have := HQ2.out; omega, HB2⟩
        case measure => have := HQ2.out; simp only [intOf, Int.toNat_natCast]; omega
    · have hd1 : decide ((lo : Int) < (hi : Int)) = false := by simp; omega
      have hd2 : decide (lo < hi) = false := by simp; omega
      obtain rfl : lo = m := by omega
      go_wp2_with fail
      go_ret
      exact ⟨rfl, by first | exact HB.out | exact below_drew1 HB.out⟩
end Go.Proofs.Ytbjlfenappnccaa.P

end
section
-- Written by a program of this session (wip/tools/hprint.py, over the kit's printer), not by hand. Lean checks it.
namespace Go.Proofs.Ytbjlfenappnccaa.P
open Go.RowKit Go.Proofs.YtbjlfenappnccaaW.PrintWords Go.Proofs.YtbjlfenappnccaaW.PrintLast Go.Proofs.YtbjlfenappnccaaW.PrintMore
attribute [local go_sem] max2_int min2_int max_two min_two max_three min_three max_four min_four
set_option linter.unusedVariables false
set_option linter.unusedSimpArgs false

/-! ### parts_Range: function 18 -/
def parts_Range.l0 : Nat → ByteArray → Int → List ByteArray → Int → Int → Option (Int)
  | 0, _, _, _, _, _ => none
  | k + 1, x1, x5, x8, x9, x10 => if x10 < x9 then (if 0 ≤ x10 then (if x10 < (x8.length : Int) then ((nums_Compare.f k (rdOf ByteArray.empty x8 x10) x1).bind fun t120 => (if t120 ≤ 0 then (parts_Range.l0 k x1 (wrap64 (x5 + 1)) x8 x9 (wrap64 (x10 + 1))) else (parts_Range.l0 k x1 x5 x8 x9 (wrap64 (x10 + 1))))) else (none)) else (none)) else (some x5)
def parts_Range.f (k : Nat) (l0 : List ByteArray) (a1 : ByteArray) : Option (Int) := parts_Range.l0 k a1 0 l0 (l0.length : Int) 0
theorem parts_Range.mono_l : ∀ k, (∀ y0 y1 y2 y3 y4, LeO (parts_Range.l0 k y0 y1 y2 y3 y4) (parts_Range.l0 (k + 1) y0 y1 y2 y3 y4))
  | 0 => fun _ _ _ _ _ r h => by simp [parts_Range.l0] at h
  | k + 1 => by
    have ih0 := parts_Range.mono_l k
    · intro y0 y1 y2 y3 y4
      unfold parts_Range.l0
      repeat' first
      | (with_reducible exact ih0 _ _ _ _ _)
      | (with_reducible exact nums_Compare.mono _ _ _)
      | (with_reducible exact LeO.refl _)
      | (with_reducible exact LeO.none _)
      | (with_reducible refine LeO.ite ?_ ?_)
      | (with_reducible refine LeO.bind ?_ (fun _ => ?_))
      | exact ih0 _ _ _ _ _
      | exact nums_Compare.mono _ _ _
      | exact LeO.none _
      | refine LeO.ite ?_ ?_
      | refine LeO.bind ?_ (fun _ => ?_)
theorem parts_Range.mono : ∀ a0 a1 k, LeO (parts_Range.f k a0 a1) (parts_Range.f (k + 1) a0 a1) := by
  intro a0 a1 k
  have ih0 := parts_Range.mono_l k
  unfold parts_Range.f
  repeat' first
      | (with_reducible exact ih0 _ _ _ _ _)
      | (with_reducible exact nums_Compare.mono _ _ _)
      | (with_reducible exact LeO.refl _)
      | (with_reducible exact LeO.none _)
      | (with_reducible refine LeO.ite ?_ ?_)
      | (with_reducible refine LeO.bind ?_ (fun _ => ?_))
      | exact ih0 _ _ _ _ _
      | exact nums_Compare.mono _ _ _
      | exact LeO.none _
      | refine LeO.ite ?_ ?_
      | refine LeO.bind ?_ (fun _ => ?_)
set_option maxHeartbeats 8000000 in
set_option maxRecDepth 100000 in
theorem parts_Range.calls (k : Nat) (A0 : Option Addr) (c0 : Nat) (l0 : List ByteArray) (a1 : ByteArray) (r : Int) (w : World) (hr0 : Kd.C Kd.string w A0 l0.length l0) (hc0 : l0.length ≤ c0) (h : parts_Range.f k l0 a1 = some r) :
    Calls Try.prog 18 #[.slice A0 l0.length c0, .string a1] w fun e w' => e = .returned (.int .i64 r) ∧ Below w.heap.size w w' := by
  have HR0 := Aside0.mk hr0
  have HC0 := Aside0.mk hc0
  clear hr0 hc0
  have HB := Aside0.mk (Below.refl w.heap.size w)
  have H : (parts_Range.l0 k a1 0 l0 (l0.length : Int) 0) = some r := h
  clear h
  have H' := Aside0.mk H
  clear H
  go_enter Try.func18, Try.ntmps18
  go_wp2
  go_loopg [5, 10] k (fun kq v5 v10 w' => ∃ (x5_1 : Int) (x10_1 : Int), v5 = .int .i64 x5_1 ∧ v10 = .int .i64 x10_1 ∧ Aside0 (parts_Range.l0 kq a1 x5_1 l0 (l0.length : Int) x10_1 = some r) ∧ Aside0 (kq ≤ k) ∧ Aside0 (Below w.heap.size w w'))
  case atStart => exact ⟨(0), (0), (by first | rfl | (simp; done) | (simp [*]; done)), (by first | rfl | (simp; done) | (simp [*]; done)), H', ⟨Nat.le_refl _⟩, ⟨by repeat (first | (with_reducible first | exact HB.out | apply below_alloc | apply pw_below_drewN | apply below_drew1) | exact HB.out)⟩⟩
  case round =>
    clear H'
    try clear c1
    try clear p2
    obtain ⟨x5_1, x10_1, rfl, rfl, HA, HK1, HB⟩ := hrel
    cases gk with
    | zero => exact absurd HA.out (by simp [parts_Range.l0])
    | succ k1 =>
      have H := HA.out
      clear HA
      simp only [parts_Range.l0] at H
      by_cases c3 : x10_1 < (l0.length : Int)
      · rw [if_pos c3] at H
        have c3b0 : decide (x10_1 < (l0.length : Int)) = true := decide_eq_true c3
        clear c3
        by_cases c4 : 0 ≤ x10_1
        · rw [if_pos c4] at H
          have c4b0 : decide (0 ≤ x10_1) = true := decide_eq_true c4
          clear c4
          by_cases c5 : x10_1 < (l0.length : Int)
          · rw [if_pos c5] at H
            have c5b0 : decide (x10_1 < (l0.length : Int)) = true := decide_eq_true c5
            clear c5
            replace H := Option.bind_eq_some_iff.mp H
            obtain ⟨t120, A60, H⟩ := H
            replace H : (if t120 ≤ 0 then (parts_Range.l0 k1 a1 (wrap64 (x5_1 + 1)) l0 (l0.length : Int) (wrap64 (x10_1 + 1))) else (parts_Range.l0 k1 a1 x5_1 l0 (l0.length : Int) (wrap64 (x10_1 + 1)))) = some r := H
            have A6 := Aside0.mk A60
            clear A60
            by_cases c7 : t120 ≤ 0
            · rw [if_pos c7] at H
              have c7b0 : decide (t120 ≤ 0) = true := decide_eq_true c7
              clear c7
              have H' := Aside0.mk H
              clear H
              have p119 : 0 ≤ (x10_1 : Int) := of_decide_eq_true (by first | (with_reducible assumption) | assumption)
              have q119 : x10_1 < (l0.length : Int) := of_decide_eq_true (by first | (with_reducible assumption) | assumption)
              obtain ⟨ad119, e119, hx119_0⟩ := Kd.at_string HR0.out x10_1 p119 q119
              cases e119
              replace hx119_0 := (HB.out.cell (World.block_lt_of_cell? w _ hx119_0)).trans hx119_0
              replace p119 := eq_true p119
              replace q119 := eq_true q119
              go_wp2_with (first | ((with_reducible refine gate_callee (f := 19) rfl ?_); refine goesL_ (some 16) rfl rfl Try.func19 (by kernel_rfl) rfl #[.string (rdOf ByteArray.empty l0 x10_1), .string a1] rfl (by (try simp only [List.map_toArray, List.map_cons, List.map_nil]); first | done | rfl | (simp only [List.length_drop, List.length_take]; rfl)) ?_; (with_reducible refine (nums_Compare.calls k1 (rdOf ByteArray.empty l0 x10_1) a1 t120 _ A6.out).mono ?_); rintro e w8 ⟨rfl, hb⟩; refine ⟨_, rfl, ?_⟩; have n0_ := Aside0.mk (below_step (by repeat (first | (with_reducible first | exact HB.out | apply below_alloc | apply pw_below_drewN | apply below_drew1) | exact HB.out)) hb); clear HB; have HB := n0_; clear n0_; (try clear hb); (try clear hb2); (try clear hk); (try clear hi)))
              go_roundg k1
              case measure => have := HK1.out; omega
              case rel => exact ⟨(wrap64 (x5_1 + 1)), (wrap64 (x10_1 + 1)), (by first | rfl | (simp; done) | (simp [*]; done)), (by first | rfl | (simp; done) | (simp [*]; done)), H', ⟨by have := HK1.out; omega⟩, ⟨by repeat (first | (with_reducible first | exact HB.out | apply below_alloc | apply pw_below_drewN | apply below_drew1) | exact HB.out)⟩⟩
            · rw [if_neg c7] at H
              have c7b0 : decide (t120 ≤ 0) = false := decide_eq_false c7
              clear c7
              have H' := Aside0.mk H
              clear H
              have p119 : 0 ≤ (x10_1 : Int) := of_decide_eq_true (by first | (with_reducible assumption) | assumption)
              have q119 : x10_1 < (l0.length : Int) := of_decide_eq_true (by first | (with_reducible assumption) | assumption)
              obtain ⟨ad119, e119, hx119_0⟩ := Kd.at_string HR0.out x10_1 p119 q119
              cases e119
              replace hx119_0 := (HB.out.cell (World.block_lt_of_cell? w _ hx119_0)).trans hx119_0
              replace p119 := eq_true p119
              replace q119 := eq_true q119
              go_wp2_with (first | ((with_reducible refine gate_callee (f := 19) rfl ?_); refine goesL_ (some 16) rfl rfl Try.func19 (by kernel_rfl) rfl #[.string (rdOf ByteArray.empty l0 x10_1), .string a1] rfl (by (try simp only [List.map_toArray, List.map_cons, List.map_nil]); first | done | rfl | (simp only [List.length_drop, List.length_take]; rfl)) ?_; (with_reducible refine (nums_Compare.calls k1 (rdOf ByteArray.empty l0 x10_1) a1 t120 _ A6.out).mono ?_); rintro e w9 ⟨rfl, hb⟩; refine ⟨_, rfl, ?_⟩; have n0_ := Aside0.mk (below_step (by repeat (first | (with_reducible first | exact HB.out | apply below_alloc | apply pw_below_drewN | apply below_drew1) | exact HB.out)) hb); clear HB; have HB := n0_; clear n0_; (try clear hb); (try clear hb2); (try clear hk); (try clear hi)))
              go_roundg k1
              case measure => have := HK1.out; omega
              case rel => exact ⟨(x5_1), (wrap64 (x10_1 + 1)), (by first | rfl | (simp; done) | (simp [*]; done)), (by first | rfl | (simp; done) | (simp [*]; done)), H', ⟨by have := HK1.out; omega⟩, ⟨by repeat (first | (with_reducible first | exact HB.out | apply below_alloc | apply pw_below_drewN | apply below_drew1) | exact HB.out)⟩⟩
          · rw [if_neg c5] at H
            exact absurd H (by simp)
        · rw [if_neg c4] at H
          exact absurd H (by simp)
      · rw [if_neg c3] at H
        have c3b0 : decide (x10_1 < (l0.length : Int)) = false := decide_eq_false c3
        clear c3
        obtain rfl := Option.some.inj H
        go_wp2
        go_ret
        exact ⟨by first | rfl | (simp [errW_none, errW_some] <;> rfl) | (simp [*, errW_none, errW_some] <;> rfl), by repeat (first | (with_reducible first | exact HB.out | apply below_alloc | apply pw_below_drewN | apply below_drew1) | exact HB.out)⟩

end Go.Proofs.Ytbjlfenappnccaa.P

end
section
-- Written by a program of this session (wip/tools/hprint.py, over the kit's printer), not by hand. Lean checks it.
namespace Go.Proofs.Ytbjlfenappnccaa.P
open Go.RowKit Go.Proofs.YtbjlfenappnccaaW.PrintWords Go.Proofs.YtbjlfenappnccaaW.PrintLast Go.Proofs.YtbjlfenappnccaaW.PrintMore
attribute [local go_sem] max2_int min2_int max_two min_two max_three min_three max_four min_four
set_option linter.unusedVariables false
set_option linter.unusedSimpArgs false

/-! ### winnowref2_Common: function 44 -/
def winnowref2_Common.l0 : Nat → ByteArray → ByteArray → Int → Option (Int)
  | 0, _, _, _ => none
  | k + 1, x0, x1, x5 => if x5 < (x0.size : Int) then (if x5 < (x1.size : Int) then (if 0 ≤ x5 then (if (bt x0 x5) = (bt x1 x5) then (winnowref2_Common.l0 k x0 x1 (wrap64 (x5 + 1))) else (some x5)) else (none)) else (some x5)) else (some x5)
def winnowref2_Common.f (k : Nat) (a0 : ByteArray) (a1 : ByteArray) : Option (Int) := winnowref2_Common.l0 k a0 a1 0
theorem winnowref2_Common.mono_l : ∀ k, (∀ y0 y1 y2, LeO (winnowref2_Common.l0 k y0 y1 y2) (winnowref2_Common.l0 (k + 1) y0 y1 y2))
  | 0 => fun _ _ _ r h => by simp [winnowref2_Common.l0] at h
  | k + 1 => by
    have ih0 := winnowref2_Common.mono_l k
    · intro y0 y1 y2
      unfold winnowref2_Common.l0
      repeat' first
      | (with_reducible exact ih0 _ _ _)
      | (with_reducible exact LeO.refl _)
      | (with_reducible exact LeO.none _)
      | (with_reducible refine LeO.ite ?_ ?_)
      | (with_reducible refine LeO.bind ?_ (fun _ => ?_))
      | exact ih0 _ _ _
      | exact LeO.none _
      | refine LeO.ite ?_ ?_
      | refine LeO.bind ?_ (fun _ => ?_)
theorem winnowref2_Common.mono : ∀ a0 a1 k, LeO (winnowref2_Common.f k a0 a1) (winnowref2_Common.f (k + 1) a0 a1) := by
  intro a0 a1 k
  have ih0 := winnowref2_Common.mono_l k
  unfold winnowref2_Common.f
  repeat' first
      | (with_reducible exact ih0 _ _ _)
      | (with_reducible exact LeO.refl _)
      | (with_reducible exact LeO.none _)
      | (with_reducible refine LeO.ite ?_ ?_)
      | (with_reducible refine LeO.bind ?_ (fun _ => ?_))
      | exact ih0 _ _ _
      | exact LeO.none _
      | refine LeO.ite ?_ ?_
      | refine LeO.bind ?_ (fun _ => ?_)
set_option maxHeartbeats 8000000 in
set_option maxRecDepth 100000 in
theorem winnowref2_Common.calls (k : Nat) (a0 : ByteArray) (a1 : ByteArray) (r : Int) (w : World) (h : winnowref2_Common.f k a0 a1 = some r) :
    Calls Try.prog 44 #[.string a0, .string a1] w fun e w' => e = .returned (.int .i64 r) ∧ Drawn0 w w' := by
  have H : (winnowref2_Common.l0 k a0 a1 0) = some r := h
  clear h
  have H' := Aside0.mk H
  clear H
  go_enter Try.func44, Try.ntmps44
  go_wp2
  repeat (go_quiet (fail); try go_wp2)
  go_loopg [5] k (fun kq v5 w' => ∃ (x5_1 : Int), v5 = .int .i64 x5_1 ∧ Aside0 (winnowref2_Common.l0 kq a0 a1 x5_1 = some r) ∧ Aside0 (kq ≤ k) ∧ Drawn0 w w')
  case atStart => exact ⟨(0), (by first | rfl | (simp; done) | (simp [*]; done)), H', ⟨Nat.le_refl _⟩, by repeat (first | exact Drawn0.refl _ | apply Drawn0.step)⟩
  case round =>
    clear H'
    try clear p2
    obtain ⟨x5_1, rfl, HA, HK1, ⟨m1, rfl⟩⟩ := hrel
    cases gk with
    | zero => exact absurd HA.out (by simp [winnowref2_Common.l0])
    | succ k1 =>
      have H := HA.out
      clear HA
      simp only [winnowref2_Common.l0] at H
      by_cases c3 : x5_1 < (a0.size : Int)
      · rw [if_pos c3] at H
        have c3b0 : decide (x5_1 < (a0.size : Int)) = true := decide_eq_true c3
        clear c3
        by_cases c4 : x5_1 < (a1.size : Int)
        · rw [if_pos c4] at H
          have c4b0 : decide (x5_1 < (a1.size : Int)) = true := decide_eq_true c4
          clear c4
          by_cases c5 : 0 ≤ x5_1
          · rw [if_pos c5] at H
            have c5b0 : decide (0 ≤ x5_1) = true := decide_eq_true c5
            clear c5
            by_cases c8 : (bt a0 x5_1) = (bt a1 x5_1)
            · rw [if_pos c8] at H
              have c8b0 : ((bt a0 x5_1) == (bt a1 x5_1)) = true := beq_iff_eq.mpr c8
              have c8b1 : ((bt a0 x5_1) != (bt a1 x5_1)) = false := bne_eq_false_iff_eq.mpr c8
              clear c8
              have H' := Aside0.mk H
              clear H
              have p6 : 0 ≤ (x5_1 : Int) := of_decide_eq_true (by first | (with_reducible assumption) | assumption)
              have q6 : x5_1 < (a0.size : Int) := of_decide_eq_true (by first | (with_reducible assumption) | assumption)
              have hx6 := bt_at a0 x5_1
              replace p6 := eq_true p6
              replace q6 := eq_true q6
              have p7 : 0 ≤ (x5_1 : Int) := of_decide_eq_true (by first | (with_reducible assumption) | assumption)
              have q7 : x5_1 < (a1.size : Int) := of_decide_eq_true (by first | (with_reducible assumption) | assumption)
              have hx7 := bt_at a1 x5_1
              replace p7 := eq_true p7
              replace q7 := eq_true q7
              go_wp2
              repeat (go_quiet (fail); try go_wp2)
              go_roundg k1
              case measure => have := HK1.out; omega
              case rel => exact ⟨(wrap64 (x5_1 + 1)), (by first | rfl | (simp; done) | (simp [*]; done)), H', ⟨by have := HK1.out; omega⟩, by repeat (first | exact Drawn0.refl _ | apply Drawn0.step)⟩
            · rw [if_neg c8] at H
              have c8b0 : ((bt a0 x5_1) == (bt a1 x5_1)) = false := beq_eq_false_iff_ne.mpr c8
              have c8b1 : ((bt a0 x5_1) != (bt a1 x5_1)) = true := bne_iff_ne.mpr c8
              obtain rfl := Option.some.inj H
              have p6 : 0 ≤ (x5_1 : Int) := of_decide_eq_true (by first | (with_reducible assumption) | assumption)
              have q6 : x5_1 < (a0.size : Int) := of_decide_eq_true (by first | (with_reducible assumption) | assumption)
              have hx6 := bt_at a0 x5_1
              replace p6 := eq_true p6
              replace q6 := eq_true q6
              have p7 : 0 ≤ (x5_1 : Int) := of_decide_eq_true (by first | (with_reducible assumption) | assumption)
              have q7 : x5_1 < (a1.size : Int) := of_decide_eq_true (by first | (with_reducible assumption) | assumption)
              have hx7 := bt_at a1 x5_1
              replace p7 := eq_true p7
              replace q7 := eq_true q7
              go_wp2
              repeat (go_quiet (fail); try go_wp2)
              go_ret
              exact ⟨by first | rfl | (simp; done) | (simp [*]; done), by repeat (first | exact Drawn0.refl _ | apply Drawn0.step)⟩
          · rw [if_neg c5] at H
            exact absurd H (by simp)
        · rw [if_neg c4] at H
          have c4b0 : decide (x5_1 < (a1.size : Int)) = false := decide_eq_false c4
          clear c4
          obtain rfl := Option.some.inj H
          go_wp2
          repeat (go_quiet (fail); try go_wp2)
          go_ret
          exact ⟨by first | rfl | (simp; done) | (simp [*]; done), by repeat (first | exact Drawn0.refl _ | apply Drawn0.step)⟩
      · rw [if_neg c3] at H
        have c3b0 : decide (x5_1 < (a0.size : Int)) = false := decide_eq_false c3
        clear c3
        obtain rfl := Option.some.inj H
        go_wp2
        repeat (go_quiet (fail); try go_wp2)
        go_ret
        exact ⟨by first | rfl | (simp; done) | (simp [*]; done), by repeat (first | exact Drawn0.refl _ | apply Drawn0.step)⟩

end Go.Proofs.Ytbjlfenappnccaa.P

end
section
-- Written by a program of this session (wip/tools/hprint.py, over the kit's printer), not by hand. Lean checks it.
namespace Go.Proofs.Ytbjlfenappnccaa.P
open Go.RowKit Go.Proofs.YtbjlfenappnccaaW.PrintWords Go.Proofs.YtbjlfenappnccaaW.PrintLast Go.Proofs.YtbjlfenappnccaaW.PrintMore
attribute [local go_sem] max2_int min2_int max_two min_two max_three min_three max_four min_four
set_option linter.unusedVariables false
set_option linter.unusedSimpArgs false

/-! ### winnowref2_Compare: function 36 -/
def winnowref2_Compare.j0 : Nat → ByteArray → ByteArray → Int → Bool → Option (Int)
  | 0, _, _, _, _ => none
  | k + 1, x0, x1, x5, x9 => if x9 = true then (some 0) else (if x5 = (x0.size : Int) then (some (-1)) else (if x5 = (x1.size : Int) then (some 1) else (if 0 ≤ x5 then (if x5 < (x0.size : Int) then (if x5 < (x1.size : Int) then (if (bt x0 x5) < (bt x1 x5) then (some (-1)) else (some 1)) else (none)) else (none)) else (none))))
def winnowref2_Compare.f (k : Nat) (a0 : ByteArray) (a1 : ByteArray) : Option (Int) := (winnowref2_Common.f k a0 a1).bind fun t126 => (if t126 = (a0.size : Int) then (winnowref2_Compare.j0 k a0 a1 t126 (t126 == (a1.size : Int))) else (winnowref2_Compare.j0 k a0 a1 t126 false))
theorem winnowref2_Compare.mono_l : ∀ k, (∀ y0 y1 y2 y3, LeO (winnowref2_Compare.j0 k y0 y1 y2 y3) (winnowref2_Compare.j0 (k + 1) y0 y1 y2 y3))
  | 0 => fun _ _ _ _ r h => by simp [winnowref2_Compare.j0] at h
  | k + 1 => by
    have ih0 := winnowref2_Compare.mono_l k
    · intro y0 y1 y2 y3
      unfold winnowref2_Compare.j0
      repeat' first
      | (with_reducible exact ih0 _ _ _ _)
      | (with_reducible exact winnowref2_Common.mono _ _ _)
      | (with_reducible exact LeO.refl _)
      | (with_reducible exact LeO.none _)
      | (with_reducible refine LeO.ite ?_ ?_)
      | (with_reducible refine LeO.bind ?_ (fun _ => ?_))
      | exact ih0 _ _ _ _
      | exact winnowref2_Common.mono _ _ _
      | exact LeO.none _
      | refine LeO.ite ?_ ?_
      | refine LeO.bind ?_ (fun _ => ?_)
theorem winnowref2_Compare.mono : ∀ a0 a1 k, LeO (winnowref2_Compare.f k a0 a1) (winnowref2_Compare.f (k + 1) a0 a1) := by
  intro a0 a1 k
  have ih0 := winnowref2_Compare.mono_l k
  unfold winnowref2_Compare.f
  repeat' first
      | (with_reducible exact ih0 _ _ _ _)
      | (with_reducible exact winnowref2_Common.mono _ _ _)
      | (with_reducible exact LeO.refl _)
      | (with_reducible exact LeO.none _)
      | (with_reducible refine LeO.ite ?_ ?_)
      | (with_reducible refine LeO.bind ?_ (fun _ => ?_))
      | exact ih0 _ _ _ _
      | exact winnowref2_Common.mono _ _ _
      | exact LeO.none _
      | refine LeO.ite ?_ ?_
      | refine LeO.bind ?_ (fun _ => ?_)
set_option maxHeartbeats 8000000 in
set_option maxRecDepth 100000 in
theorem winnowref2_Compare.calls (k : Nat) (a0 : ByteArray) (a1 : ByteArray) (r : Int) (w : World) (h : winnowref2_Compare.f k a0 a1 = some r) :
    Calls Try.prog 36 #[.string a0, .string a1] w fun e w' => e = .returned (.int .i64 r) ∧ Drawn0 w w' := by
  have H : ((winnowref2_Common.f k a0 a1).bind fun t126 => (if t126 = (a0.size : Int) then (winnowref2_Compare.j0 k a0 a1 t126 (t126 == (a1.size : Int))) else (winnowref2_Compare.j0 k a0 a1 t126 false))) = some r := h
  clear h
  replace H := Option.bind_eq_some_iff.mp H
  obtain ⟨t126, A30, H⟩ := H
  replace H : (if t126 = (a0.size : Int) then (winnowref2_Compare.j0 k a0 a1 t126 (t126 == (a1.size : Int))) else (winnowref2_Compare.j0 k a0 a1 t126 false)) = some r := H
  have A3 := Aside0.mk A30
  clear A30
  have HC4 := Aside0.mk H
  clear H
  go_enter Try.func36, Try.ntmps36
  go_upto_region 2 with (first | (go_at_call 44; (with_reducible refine (winnowref2_Common.calls k a0 a1 t126 _ A3.out).mono ?_); rintro e w' ⟨rfl, ⟨nd, rfl⟩⟩; (try first | exact ⟨rfl, _, World.drewN_drewN _ _ _⟩ | exact ⟨rfl, _, Eq.trans (World.drewN_drewN _ _ _) (congrArg (World.drewN _) (Nat.add_assoc _ _ _))⟩)))
  repeat (go_quiet (first | (go_at_call 44; (with_reducible refine (winnowref2_Common.calls k a0 a1 t126 _ A3.out).mono ?_); rintro e w' ⟨rfl, ⟨nd, rfl⟩⟩; (try first | exact ⟨rfl, _, World.drewN_drewN _ _ _⟩ | exact ⟨rfl, _, Eq.trans (World.drewN_drewN _ _ _) (congrArg (World.drewN _) (Nat.add_assoc _ _ _))⟩))); go_upto_region 2 with (first | (go_at_call 44; (with_reducible refine (winnowref2_Common.calls k a0 a1 t126 _ A3.out).mono ?_); rintro e w' ⟨rfl, ⟨nd, rfl⟩⟩; (try first | exact ⟨rfl, _, World.drewN_drewN _ _ _⟩ | exact ⟨rfl, _, Eq.trans (World.drewN_drewN _ _ _) (congrArg (World.drewN _) (Nat.add_assoc _ _ _))⟩))))
  (try simp only [Act.put, List.setIfInBounds_toArray, List.set_cons_zero, List.set_cons_succ])
  go_cut [9] (fun v9 wc => ∃ (kq : Nat) (x9_3 : Bool), v9 = .bool x9_3 ∧ Aside0 (winnowref2_Compare.j0 kq a0 a1 t126 x9_3 = some r) ∧ Aside0 (kq ≤ k) ∧ Drawn0 w wc)
  case first =>
    have H := HC4.out
    clear HC4
    by_cases c5 : t126 = (a0.size : Int)
    · rw [if_pos c5] at H
      have c5b0 : (t126 == (a0.size : Int)) = true := beq_iff_eq.mpr c5
      have c5b1 : (t126 != (a0.size : Int)) = false := bne_eq_false_iff_eq.mpr c5
      clear c5
      (first | rw [c5b0] | (simp only [i64_w, i32_w]; rw [c5b0]) | skip)
      have H' := Aside0.mk H
      clear H
      go_wp2
      repeat (go_quiet (fail); try go_wp2)
      go_meet
      case rel => exact ⟨_, ((t126 == (a1.size : Int))), (by first | rfl | (simp; done) | (simp [*]; done)), H', ⟨by first | omega | exact Nat.le_refl _⟩, by repeat (first | exact Drawn0.refl _ | apply Drawn0.step)⟩
    · rw [if_neg c5] at H
      have c5b0 : (t126 == (a0.size : Int)) = false := beq_eq_false_iff_ne.mpr c5
      have c5b1 : (t126 != (a0.size : Int)) = true := bne_iff_ne.mpr c5
      (first | rw [c5b0] | (simp only [i64_w, i32_w]; rw [c5b0]) | skip)
      have H' := Aside0.mk H
      clear H
      go_wp2
      repeat (go_quiet (fail); try go_wp2)
      go_meet
      case rel => exact ⟨_, (false), (by first | rfl | (simp; done) | (simp [*]; done)), H', ⟨by first | omega | exact Nat.le_refl _⟩, by repeat (first | exact Drawn0.refl _ | apply Drawn0.step)⟩
  case rest =>
    clear HC4
    try clear p2
    try clear c3
    try clear c5
    try clear c5b0
    try clear c5b1
    obtain ⟨kq, x9_3, rfl, HA, HJ3, ⟨mc3, rfl⟩⟩ := hcut
    cases kq with
    | zero => exact absurd HA.out (by simp [winnowref2_Compare.j0])
    | succ kj3 =>
      have H := HA.out
      clear HA
      simp only [winnowref2_Compare.j0] at H
      by_cases c6 : x9_3 = true
      · subst c6
        have H1 : (some 0) = some r := by rw [if_pos rfl] at H; exact H
        clear H
        have H := H1
        clear H1
        obtain rfl := Option.some.inj H
        go_wp2
        repeat (go_quiet (fail); try go_wp2)
        go_ret
        exact ⟨by first | rfl | (simp; done) | (simp [*]; done), by repeat (first | exact Drawn0.refl _ | apply Drawn0.step)⟩
      · replace c6 := Bool.eq_false_iff.mpr c6
        subst c6
        have H1 : (if t126 = (a0.size : Int) then (some (-1)) else (if t126 = (a1.size : Int) then (some 1) else (if 0 ≤ t126 then (if t126 < (a0.size : Int) then (if t126 < (a1.size : Int) then (if (bt a0 t126) < (bt a1 t126) then (some (-1)) else (some 1)) else (none)) else (none)) else (none)))) = some r := by rw [if_neg (show ¬ (false = true) by decide)] at H; exact H
        clear H
        have H := H1
        clear H1
        by_cases c7 : t126 = (a0.size : Int)
        · rw [if_pos c7] at H
          have c7b0 : (t126 == (a0.size : Int)) = true := beq_iff_eq.mpr c7
          have c7b1 : (t126 != (a0.size : Int)) = false := bne_eq_false_iff_eq.mpr c7
          clear c7
          obtain rfl := Option.some.inj H
          go_wp2
          repeat (go_quiet (fail); try go_wp2)
          go_ret
          exact ⟨by first | rfl | (simp; done) | (simp [*]; done), by repeat (first | exact Drawn0.refl _ | apply Drawn0.step)⟩
        · rw [if_neg c7] at H
          have c7b0 : (t126 == (a0.size : Int)) = false := beq_eq_false_iff_ne.mpr c7
          have c7b1 : (t126 != (a0.size : Int)) = true := bne_iff_ne.mpr c7
          by_cases c8 : t126 = (a1.size : Int)
          · rw [if_pos c8] at H
            have c8b0 : (t126 == (a1.size : Int)) = true := beq_iff_eq.mpr c8
            have c8b1 : (t126 != (a1.size : Int)) = false := bne_eq_false_iff_eq.mpr c8
            clear c8
            obtain rfl := Option.some.inj H
            go_wp2
            repeat (go_quiet (fail); try go_wp2)
            go_ret
            exact ⟨by first | rfl | (simp; done) | (simp [*]; done), by repeat (first | exact Drawn0.refl _ | apply Drawn0.step)⟩
          · rw [if_neg c8] at H
            have c8b0 : (t126 == (a1.size : Int)) = false := beq_eq_false_iff_ne.mpr c8
            have c8b1 : (t126 != (a1.size : Int)) = true := bne_iff_ne.mpr c8
            by_cases c9 : 0 ≤ t126
            · rw [if_pos c9] at H
              have c9b0 : decide (0 ≤ t126) = true := decide_eq_true c9
              clear c9
              by_cases c10 : t126 < (a0.size : Int)
              · rw [if_pos c10] at H
                have c10b0 : decide (t126 < (a0.size : Int)) = true := decide_eq_true c10
                clear c10
                by_cases c12 : t126 < (a1.size : Int)
                · rw [if_pos c12] at H
                  have c12b0 : decide (t126 < (a1.size : Int)) = true := decide_eq_true c12
                  clear c12
                  by_cases c14 : (bt a0 t126) < (bt a1 t126)
                  · rw [if_pos c14] at H
                    have c14b0 : decide ((bt a0 t126) < (bt a1 t126)) = true := decide_eq_true c14
                    clear c14
                    obtain rfl := Option.some.inj H
                    have p11 : 0 ≤ (t126 : Int) := of_decide_eq_true (by first | (with_reducible assumption) | assumption)
                    have q11 : t126 < (a0.size : Int) := of_decide_eq_true (by first | (with_reducible assumption) | assumption)
                    have hx11 := bt_at a0 t126
                    replace p11 := eq_true p11
                    replace q11 := eq_true q11
                    have p13 : 0 ≤ (t126 : Int) := of_decide_eq_true (by first | (with_reducible assumption) | assumption)
                    have q13 : t126 < (a1.size : Int) := of_decide_eq_true (by first | (with_reducible assumption) | assumption)
                    have hx13 := bt_at a1 t126
                    replace p13 := eq_true p13
                    replace q13 := eq_true q13
                    go_wp2
                    repeat (go_quiet (fail); try go_wp2)
                    go_ret
                    exact ⟨by first | rfl | (simp; done) | (simp [*]; done), by repeat (first | exact Drawn0.refl _ | apply Drawn0.step)⟩
                  · rw [if_neg c14] at H
                    have c14b0 : decide ((bt a0 t126) < (bt a1 t126)) = false := decide_eq_false c14
                    clear c14
                    obtain rfl := Option.some.inj H
                    have p11 : 0 ≤ (t126 : Int) := of_decide_eq_true (by first | (with_reducible assumption) | assumption)
                    have q11 : t126 < (a0.size : Int) := of_decide_eq_true (by first | (with_reducible assumption) | assumption)
                    have hx11 := bt_at a0 t126
                    replace p11 := eq_true p11
                    replace q11 := eq_true q11
                    have p13 : 0 ≤ (t126 : Int) := of_decide_eq_true (by first | (with_reducible assumption) | assumption)
                    have q13 : t126 < (a1.size : Int) := of_decide_eq_true (by first | (with_reducible assumption) | assumption)
                    have hx13 := bt_at a1 t126
                    replace p13 := eq_true p13
                    replace q13 := eq_true q13
                    go_wp2
                    repeat (go_quiet (fail); try go_wp2)
                    go_ret
                    exact ⟨by first | rfl | (simp; done) | (simp [*]; done), by repeat (first | exact Drawn0.refl _ | apply Drawn0.step)⟩
                · rw [if_neg c12] at H
                  exact absurd H (by simp)
              · rw [if_neg c10] at H
                exact absurd H (by simp)
            · rw [if_neg c9] at H
              exact absurd H (by simp)

end Go.Proofs.Ytbjlfenappnccaa.P

end
