/- Several texts laid together (wip/tools/merge2.py): Open, Str, P0, Opens, Pf19, HCmpQ, Cmp, Ord, HLess, HSortK. -/
import Derived.Test.YtbjlfenappnccaaWWords
import Derived.Test.YtbjlfenappnccaaRows
import Derived.Deep.Slices
import Derived.SizedLaws
import Derived.ProofKit
import Derived.Laws.Strings
import Derived.Laws.Small
import Derived.Test.YtbjlfenappnccaaProg
import Derived.Below
import Derived.Deep.Draws
import Derived.Deep.AppendLies
import Derived.Maps.AppendAt
import Derived.OwnWalk
import Derived.Laws.BytesArg
import Derived.Laws.MakeOwn
import Derived.Laws.OwnMore
import Derived.Deep.OwnRows
import Derived.Tactics
import Derived.Lib.ConvBytes
import Derived.Laws.Slices
import Derived.WalkKit
import Derived.KernelRfl
import Derived.RowKit3
import Derived.Deep.LoopGhost
import Derived.Deep.QuietTactic
import Derived.BigQuiet
import Derived.WideLaws
import Derived.Deep.DeepCutAuto
import Derived.Deep.CutBlock
import Derived.Deep.RegionHeld3
import Derived.Laws.Rows
import Derived.Lib.AppendStr
import Derived.ArgAppend
import Derived.Laws.IdiomCopy
import Derived.OrdersHeld
import Derived.Laws.BitsLemmas
import Derived.RowKit
import Derived.Test.YtbjlfenappnccaaWLast
import Derived.Test.YtbjlfenappnccaaWTab
import Derived.Test.YtbjlfenappnccaaWFour
import Derived.Test.YtbjlfenappnccaaWQPut
import Derived.Test.YtbjlfenappnccaaWApart
import Derived.Test.YtbjlfenappnccaaWArr
import Derived.Test.YtbjlfenappnccaaWZeros
import Derived.Test.YtbjlfenappnccaaWFoot
import Derived.Test.YtbjlfenappnccaaWKept
import Derived.Test.YtbjlfenappnccaaWShare
import Derived.Test.YtbjlfenappnccaaWN
import Derived.Test.YtbjlfenappnccaaWFootNe
import Derived.Test.YtbjlfenappnccaaWAt
import Derived.Test.YtbjlfenappnccaaWEqStruct
import Derived.Test.YtbjlfenappnccaaWRepsOne
import Derived.Test.YtbjlfenappnccaaWInv
import Derived.Test.YtbjlfenappnccaaWInvWords
import Derived.Test.YtbjlfenappnccaaWGuard
import Derived.Test.YtbjlfenappnccaaWNEv
import Derived.Test.YtbjlfenappnccaaWMore
import Derived.Sort.LotA
import Derived.Shelf.GgSortFunc.Whole
import Derived.Shelf.GgSortFunc.Tiny
import Derived.Shelf.Lay
import Derived.Ground.GgsProg
import Derived.Lib.RowBridge
import Derived.Lib.SortBridge
section
/- What comes in as data is read as a Lean value of its kind, whatever the kind: numbers, bools, strings, structs, slices of these. -/
set_option linter.unusedVariables false
namespace Go.Proofs.Ytbjlfenappnccaa.OpenWords
open Go.Deep Go.ChangeShapes Go.WideShapes Go.Proofs.YtbjlfenappnccaaW.PrintWords

/-- What a value of type t reads as: 'ok' is what is known of it, 'bk' what it weighs at least. -/
structure Opens (P : Program) (t : TypeId) {α : Type} (d : Kd α) (ok : α → Prop) (bk : α → Nat) : Prop where
  sz : P.cellsOf t = d.sz
  get : ∀ {H : Type} (enc : TypeId × Value → H) (w : World) (held : Bool) (fuel : Nat) (cs : List Value) (x : DataW H × List MemPlace),
    DataW.trod enc P w 0 (fun _ => true) held fuel t cs = some x → (∀ n ∈ x.1.weights P t, n ≤ reachBytes) →
    ∃ a : α, d.K w a cs ∧ ok a ∧ bk a ≤ Rows.uptoBulk x.1

theorem opens_int {P : Program} {t : TypeId} {k : IntKind} (h : P.underlying t = some (.int k)) (hs : P.cellsOf t = 1) :
    Opens P t (Kd.int k) (fun a => (Lit.int k a).wf = true) (fun _ => 1) where
  sz := hs
  get := by
    intro H enc w held fuel cs x hx _
    obtain ⟨n, rfl, rfl, hw⟩ := DataW.trod_int h hx
    exact ⟨n, rfl, hw, Nat.le_refl _⟩

theorem opens_bool {P : Program} {t : TypeId} (h : P.underlying t = some .bool) (hs : P.cellsOf t = 1) :
    Opens P t Kd.bool (fun _ => True) (fun _ => 1) where
  sz := hs
  get := by
    intro H enc w held fuel cs x hx _
    obtain ⟨n, rfl, rfl⟩ := DataW.trod_bool h hx
    exact ⟨n, rfl, trivial, Nat.le_refl _⟩

theorem opens_string {P : Program} {t : TypeId} (h : P.underlying t = some .string) (hs : P.cellsOf t = 1) :
    Opens P t Kd.string (fun a => a.size ≤ 140737488351232) (fun a => a.size + 1) where
  sz := hs
  get := by
    intro H enc w held fuel cs x hx hw
    obtain ⟨s, rfl, rfl, hl⟩ := DataW.trod_string h hx
    refine ⟨s, rfl, ?_, ?_⟩
    · have := hw s.data.toList.length (by simp [DataW.weights])
      simpa [reachBytes] using this
    · show s.size + 1 ≤ s.data.toList.length + 1
      rw [Array.length_toList]
      exact Nat.le_refl _

/-- Some fields of a struct, from cell 'off' on. -/
structure OpensF (P : Program) (fs : List Field) (off : Nat) {α : Type} (d : Kd α) (ok : α → Prop) (bk : α → Nat) : Prop where
  get : ∀ {H : Type} (enc : TypeId × Value → H) (w : World) (held : Bool) (fuel : Nat) (cs : List Value) (xs : List (DataW H × List MemPlace)),
    cs.length = off + d.sz →
    (fs.mapM fun f => DataW.trod enc P w 0 (fun _ => true) held fuel f.type ((cs.drop f.offset).take (P.cellsOf f.type))) = some xs →
    (∀ n ∈ DataW.weightsEach P (fs.map (·.type)) (xs.map (·.1)), n ≤ reachBytes) →
    ∃ a : α, d.K w a (cs.drop off) ∧ ok a ∧ bk a ≤ Rows.uptoBulkAll (xs.map (·.1))

theorem opensF_one {P : Program} {f : Field} {α : Type} {d : Kd α} {ok : α → Prop} {bk : α → Nat} (h : Opens P f.type d ok bk) : OpensF P [f] f.offset d ok bk where
  get := by
    intro H enc w held fuel cs xs hl hx hw
    rw [List.mapM_cons] at hx
    cases h1 : DataW.trod enc P w 0 (fun _ => true) held fuel f.type ((cs.drop f.offset).take (P.cellsOf f.type)) with
    | none => rw [h1] at hx; simp at hx
    | some x =>
      rw [h1] at hx
      have hx' : some [x] = some xs := hx
      obtain rfl := Option.some.inj hx'
      rw [List.take_of_length_le (by rw [List.length_drop, h.sz]; omega)] at h1
      obtain ⟨a, hK, ho, hb⟩ := h.get enc w held fuel _ x h1 (fun n hn => hw n (by simpa [DataW.weightsEach] using hn))
      exact ⟨a, hK, ho, by simpa [Rows.uptoBulkAll] using hb⟩

theorem opensF_cons {P : Program} {f : Field} {fs : List Field} {off : Nat} {α β : Type} {d : Kd α} {ok : α → Prop} {bk : α → Nat} {d' : Kd β} {ok' : β → Prop} {bk' : β → Nat}
    (h : Opens P f.type d ok bk) (ho : off = f.offset + d.sz) (h' : OpensF P fs off d' ok' bk') :
    OpensF P (f :: fs) f.offset (Kd.pair d d') (fun a => ok a.1 ∧ ok' a.2) (fun a => bk a.1 + bk' a.2) where
  get := by
    intro H enc w held fuel cs xs hl hx hw
    have hl' : cs.length = f.offset + (d.sz + d'.sz) := hl
    rw [List.mapM_cons] at hx
    cases h1 : DataW.trod enc P w 0 (fun _ => true) held fuel f.type ((cs.drop f.offset).take (P.cellsOf f.type)) with
    | none => rw [h1] at hx; simp at hx
    | some x =>
      rw [h1] at hx
      cases h2 : fs.mapM fun f => DataW.trod enc P w 0 (fun _ => true) held fuel f.type ((cs.drop f.offset).take (P.cellsOf f.type)) with
      | none => rw [h2] at hx; simp at hx
      | some ys =>
        rw [h2] at hx
        have hx' : some (x :: ys) = some xs := hx
        obtain rfl := Option.some.inj hx'
        obtain ⟨a, hK, hok, hb⟩ := h.get enc w held fuel _ x h1 (fun n hn => hw n (by simp only [List.map_cons, DataW.weightsEach, List.mem_append]; exact .inl hn))
        obtain ⟨a', hK', hok', hb'⟩ := h'.get enc w held fuel cs ys (by rw [hl', ho]; omega) h2 (fun n hn => hw n (by simp only [List.map_cons, DataW.weightsEach, List.mem_append]; exact .inr hn))
        refine ⟨(a, a'), ⟨_, _, ?_, hK, hK'⟩, ⟨hok, hok'⟩, ?_⟩
        · rw [h.sz, ho, ← List.drop_drop]
          exact (List.take_append_drop _ _).symm
        · simp only [List.map_cons, Rows.uptoBulkAll]
          omega

theorem opens_struct {P : Program} {t : TypeId} {fs : Array Field} {α β : Type} {d : Kd α} {ok : α → Prop} {bk : α → Nat} (g : β → α) (m : α → β) (hg : ∀ a, g (m a) = a)
    (hu : P.underlying t = some (.struct fs)) (hs : P.cellsOf t = d.sz) (h : OpensF P fs.toList 0 d ok bk) :
    Opens P t (Kd.iso d g) (fun b => ok (g b)) (fun b => bk (g b) + 1) where
  sz := hs
  get := by
    intro H enc w held fuel cs x hx hw
    cases fuel with
    | zero => simp [DataW.trod] at hx
    | succ fuel =>
      unfold DataW.trod at hx
      rw [hu] at hx
      simp only at hx
      split at hx
      · rename_i hl
        obtain ⟨xs, hxs, rfl⟩ := Option.map_eq_some_iff.1 hx
        obtain ⟨a, hK, hok, hb⟩ := h.get enc w held fuel cs xs (by rw [hl, hs, Nat.zero_add]) hxs (fun n hn => hw n (by
          simp only [DataW.weights, hu]
          exact hn))
        refine ⟨m a, ?_, ?_, ?_⟩
        · show d.K w (g (m a)) cs
          rw [hg]
          simpa using hK
        · show ok (g (m a))
          rw [hg]; exact hok
        · show bk (g (m a)) + 1 ≤ _
          rw [hg]
          simp only [Rows.uptoBulk]
          omega
      · simp at hx

theorem bulkAll_sum {H : Type} (l : List (DataW H)) : Rows.uptoBulkAll l = (l.map Rows.uptoBulk).sum := by
  induction l with
  | nil => rfl
  | cons x l ih => simp [Rows.uptoBulkAll, ih]

theorem weightsAll_mem {H : Type} {P : Program} {e : TypeId} {l : List (DataW H)} {d : DataW H} (hd : d ∈ l) {n : Nat} (hn : n ∈ d.weights P e) : n ∈ DataW.weightsAll P e l := by
  induction l with
  | nil => cases hd
  | cons y l ih =>
    simp only [DataW.weightsAll, List.mem_append]
    rcases List.mem_cons.1 hd with rfl | hd
    · exact .inl hn
    · exact .inr (ih hd)

theorem map_sum_le {α : Type} {f g : α → Nat} (l : List α) (h : ∀ a ∈ l, f a ≤ g a) : (l.map f).sum ≤ (l.map g).sum := by
  induction l with
  | nil => exact Nat.le_refl _
  | cons x l ih =>
    have h1 := h x (by simp)
    have h2 := ih (fun a ha => h a (by simp [ha]))
    simp only [List.map_cons, List.sum_cons]
    omega

theorem cells_len {w : World} {base : Nat} {a : Addr} {n : Nat} {cs : List Value} (h : w.cells? base a n = some cs) : cs.length = n ∧ ∀ i u, cs[i]? = some u → w.cell? (a.add i) = some u := by
  obtain ⟨_, h1, h2⟩ := World.cells?_some h
  refine ⟨h1, fun i u hu => ?_⟩
  obtain ⟨hi, rfl⟩ := List.getElem?_eq_some_iff.1 hu
  have := h2 i (by omega)
  rw [this]
  simp [List.getElem?_eq_getElem hi]

theorem opens_slice {P : Program} {t e : TypeId} {α : Type} [Inhabited α] {d : Kd α} {ok : α → Prop} {bk : α → Nat} (B : Nat)
    (hu : P.underlying t = some (.slice e)) (hs : P.cellsOf t = 1) (hB : P.bytesOf e = B) (h : Opens P e d ok bk) :
    Opens P t (Kd.slice e d) (fun l => l.length ≤ maxLen ∧ l.length * B ≤ 140737488351232 ∧ ∀ x ∈ l, ok x) (fun l => (l.map bk).sum + 1) where
  sz := hs
  get := by
    intro H enc w held fuel cs x hx hw
    rcases open_slice hu hx with ⟨rfl, rfl⟩ | ⟨a, len, cap, m, n, D, Pl, rfl, _, hl, hm, hmm, rfl, hel⟩
    · exact ⟨[], ⟨none, 0, rfl, Nat.le_refl _, rfl, by simp, by simp⟩, ⟨by simp, by simp, by simp⟩, by simp [Rows.uptoBulk]⟩
    · have hmc : m = cap := by simpa using hmm
      subst hmc
      have hw1 : (((List.range len).map D).length + ((List.range (m - len)).map fun j => D (len + j)).length) * P.bytesOf e ≤ reachBytes := hw _ (by simp [DataW.weights, hu])
      have hw2 : ∀ i, i < len → ∀ k ∈ (D i).weights P e, k ≤ reachBytes := fun i hi k hk => hw k (by
        simp only [DataW.weights, hu, List.mem_cons, List.mem_append]
        exact .inr (.inl (weightsAll_mem (List.mem_map.2 ⟨i, List.mem_range.2 hi, rfl⟩) hk)))
      have each : ∀ i, i < len → ∃ y : α, (∃ cs', w.cells? 0 (a.add (i * P.cellsOf e)) (P.cellsOf e) = some cs' ∧ d.K w y cs') ∧ ok y ∧ bk y ≤ Rows.uptoBulk (D i) := by
        intro i hi
        obtain ⟨cs', hc, ht⟩ := hel i (by omega)
        obtain ⟨y, hK, ho, hb⟩ := h.get enc w held n cs' _ ht (hw2 i hi)
        exact ⟨y, ⟨cs', hc, hK⟩, ho, hb⟩
      obtain ⟨f, hf⟩ := choose_lt each
      refine ⟨(List.range len).map f, ⟨some a, m, by simp, by simpa using hl, ?_⟩, ⟨?_, ?_, ?_⟩, ?_⟩
      · refine ⟨rfl, ?_, fun hn => ⟨a, rfl, fun j p hj => ?_⟩⟩
        · simp only [List.length_map, List.length_range]
          unfold maxLen at hm
          omega
        · obtain ⟨hjl, hp⟩ := List.getElem?_eq_some_iff.1 hj
          simp at hjl
          have hp' : f j = p := by simpa using hp
          obtain ⟨⟨cs', hc, hK⟩, _⟩ := hf j hjl
          obtain ⟨hcl, hcc⟩ := cells_len hc
          refine ⟨cs', by rw [hcl, h.sz], hp' ▸ hK, fun i u hu' => ?_⟩
          have := hcc i u hu'
          rw [Go.Deep.add_add, h.sz] at this
          exact this
      · simp; omega
      · simp only [List.length_map, List.length_range] at hw1 ⊢
        rw [hB] at hw1
        have : len * B ≤ (len + (m - len)) * B := Nat.mul_le_mul_right _ (by omega)
        unfold reachBytes at hw1
        omega
      · intro x hx
        obtain ⟨i, hi, rfl⟩ := List.mem_map.1 hx
        exact (hf i (List.mem_range.1 hi)).2.1
      · simp only [Rows.uptoBulk, bulkAll_sum, List.map_map]
        have := map_sum_le (f := bk ∘ f) (g := Rows.uptoBulk ∘ D) (List.range len) (fun i hi => (hf i (List.mem_range.1 hi)).2.2)
        omega

/-- An argument of a kind of one cell, or a struct: its value, and what is known of it. -/
theorem Opens.arg {P : Program} {t : TypeId} {α : Type} {d : Kd α} {ok : α → Prop} {bk : α → Nat} (h : Opens P t d ok bk) {H : Type} {enc : TypeId × Value → H} {W : World} {held : Bool} {v : Value} {x : DataW H} {ps : List MemPlace}
    (ht : DataW.Trod enc P W 0 (fun _ => true) held t v x ps) (hw : ∀ n ∈ x.weights P t, n ≤ reachBytes) : ∃ a : α, d.K W a v.cells.toList ∧ ok a ∧ bk a ≤ Rows.uptoBulk x := by
  obtain ⟨fuel, hf⟩ := ht
  exact h.get enc W held fuel _ (x, ps) hf hw
theorem each_of {H : Type} {P : Program} {ts : List TypeId} {ds : List (DataW H)} (h : (DataW.weightsEach P ts ds).all (· ≤ reachBytes) = true) {j : Nat} {t : TypeId} {d : DataW H} (ht : ts[j]? = some t) (hd : ds[j]? = some d) : ∀ n ∈ d.weights P t, n ≤ reachBytes :=
  fun n hn => by simpa using List.all_eq_true.1 h n (DataW.weights_mem_each ht hd n hn)

theorem int_of_K {k k' : IntKind} {w : World} {n x : Int} (h : (Kd.int k).K w x (Value.int k' n).cells.toList) : n = x := by
  have h' : [Value.int k' n] = [Value.int k x] := h
  simpa using (List.cons.inj h').1 |> fun e => (Value.int.inj e).2
theorem string_of_K {w : World} {s x : ByteArray} (h : Kd.string.K w x (Value.string s).cells.toList) : s = x := by
  have h' : [Value.string s] = [Value.string x] := h
  exact Value.string.inj (List.cons.inj h').1
theorem bool_of_K {w : World} {v : Value} {x : Bool} (hv : ∃ b, v = .bool b) (h : Kd.bool.K w x v.cells.toList) : v = .bool x := by
  obtain ⟨b, rfl⟩ := hv
  have h' : [Value.bool b] = [Value.bool x] := h
  exact (List.cons.inj h').1
theorem slice_of_K {α : Type} {e : Nat} {d : Kd α} {w : World} {a : Option Addr} {len cap : Nat} {xs : List α} (h : (Kd.slice e d).K w xs (Value.slice a len cap).cells.toList) : len = xs.length ∧ xs.length ≤ cap ∧ Kd.C d w a xs.length xs := by
  obtain ⟨A, c, he, hl, hr⟩ := h
  have h' : [Value.slice a len cap] = [Value.slice A xs.length c] := he
  obtain ⟨rfl, rfl, rfl⟩ := Value.slice.inj (List.cons.inj h').1
  exact ⟨rfl, hl, hr⟩
theorem agg_of_K {cs : Array Value} {l : List Value} (h : (Value.agg cs).cells.toList = l) : cs = l.toArray := by
  have h' : cs.toList = l := h
  rw [← h']
end Go.Proofs.Ytbjlfenappnccaa.OpenWords

end
section
/- The comparisons of strings as the printed functions spell them: each by 'is one less than the other'. -/
set_option linter.unusedVariables false
set_option linter.unusedSimpArgs false
namespace Go.Proofs.Ytbjlfenappnccaa.StrWords
theorem bytesLess_tri : ∀ a b : List UInt8, (!(Op.bytesLess a b || a == b)) = Op.bytesLess b a
  | [], [] => by decide
  | [], _ :: _ => by simp [Op.bytesLess]
  | _ :: _, [] => by simp [Op.bytesLess]
  | a :: x, b :: y => by
    have ih := bytesLess_tri x y
    simp only [Op.bytesLess]
    rcases Nat.lt_trichotomy a.toNat b.toNat with h | h | h
    · have h1 : a < b := UInt8.lt_iff_toNat_lt.2 h
      have h2 : ¬ b < a := fun h' => by have := UInt8.lt_iff_toNat_lt.1 h'; omega
      have h3 : ¬ b = a := fun h' => by subst h'; omega
      simp [h1, h2, h3]
    · have h1 : a = b := UInt8.toNat_inj.1 h
      subst h1
      have h2 : ¬ a < a := fun h' => by have := UInt8.lt_iff_toNat_lt.1 h'; omega
      simp only [h2, decide_false, Bool.false_or, beq_self_eq_true, Bool.true_and, List.cons_beq_cons]
      exact ih
    · have h1 : b < a := UInt8.lt_iff_toNat_lt.2 h
      have h2 : ¬ a < b := fun h' => by have := UInt8.lt_iff_toNat_lt.1 h'; omega
      have h3 : ¬ a = b := fun h' => by subst h'; omega
      simp [h1, h2, h3]
theorem bytesLess_le (a b : List UInt8) : (Op.bytesLess a b || a == b) = !(Op.bytesLess b a) := by
  rw [← bytesLess_tri a b]; simp
@[go_sem] theorem gtr_run (t : TypeId) (a b : ByteArray) : binOp .gtr t (.string a) (.string b) = pure (.bool (Op.bytesLess b.toList a.toList)) := by
  rw [← bytesLess_tri]; simp [binOp, Op.stringOp]
@[go_sem] theorem leq_run (t : TypeId) (a b : ByteArray) : binOp .leq t (.string a) (.string b) = pure (.bool !(Op.bytesLess b.toList a.toList)) := by
  rw [← bytesLess_le]; simp [binOp, Op.stringOp]
@[go_sem] theorem geq_run (t : TypeId) (a b : ByteArray) : binOp .geq t (.string a) (.string b) = pure (.bool !(Op.bytesLess a.toList b.toList)) := by
  simp [binOp, Op.stringOp]
open Go.Proofs.YtbjlfenappnccaaW.PrintWords in
theorem rr_len {α : Type} {R : α → List Value → Prop} {size : Nat} {w : World} {A : Option Addr} {n m : Nat} {ps : List α} (h : m = n) (hr : ReadsRow R size w A m ps) : ReadsRow R size w A n ps := h ▸ hr
section
open Go.RowKit Go.Proofs.YtbjlfenappnccaaW.PrintWords
variable {P : Program} {ops : Array Oper} {rest : List Oper} {o : Oper} {a : Act} {Q : Exit → Act → World → Prop} {α : Type}
/-- 'make([]T, 0, n)': an empty row of one's own, with room. -/
theorem R_make0 (d : Kd α) {w0 W : World} (base e : Nat) (hgd : o.guard = none) {N : Tmp} (hd : o.dst = some N) (t : TypeId) (x y : Operand) (ho : o.op = .makeSlice t x y) (n : Int) (hx : a.eval x = .int .i64 0) (hy : a.eval y = .int .i64 n)
    (ht : P.underlying t = some (.slice e)) (z : Value) (bytes : Nat) (hinfo : (P.info? e).map (fun i => (i.zero, i.size, i.bytes)) = some (some z, d.sz, bytes)) (hz : z.cells.size = d.sz) (hs0 : 0 < d.sz) (hb0 : 0 < bytes)
    (z0 : α) {ok okp : Nat → Prop} (_hzero : d.M W base okp z0 z.cells.toList) (_hok : ∀ k, okp k → ok k) (hfresh : ok W.heap.size) (h0 : 0 ≤ n) (hl : n.toNat * bytes ≤ 281474976710656) (HB : Below base w0 W) (hbase : base ≤ W.heap.size)
    (h : ∀ v1 w1, d.R e w1 base ok v1 [] → Below base w0 w1 → W.grownBy w1 none → (∃ b, v1.ownBlock = some b ∧ W.heap.size ≤ b) → wpList P ops Q rest (a.put o.dst v1) w1) : wpList P ops Q (o :: rest) a W := by
  obtain ⟨m, rfl⟩ := Int.eq_ofNat_of_zero_le h0
  simp only [Int.toNat_natCast] at hl
  obtain ⟨i0, hi, hzz⟩ := Option.map_eq_some_iff.1 hinfo
  simp only [Prod.mk.injEq] at hzz
  obtain ⟨hz0, hz1, hz2⟩ := hzz
  have hm : m ≤ 281474976710656 := Nat.le_trans (Nat.le_mul_of_pos_right _ hb0) hl
  refine wpList_make_own W hgd x y t ho base e i0 z d.sz ht hi hz0 hz1 .i64 .i64 (m : Int) m hx hy rfl (by rw [hz2, Nat.mul_comm]; exact hl) (by unfold maxLen; omega) hbase ?_
  intro w' ho' hg
  refine h _ w' ⟨fun k hk => ?_, [], ?_, ?_⟩ (HB.grown hg hbase (fun k hk => by cases hk)) hg ⟨W.heap.size, by simp [Value.ownBlock], Nat.le_refl _⟩
  · have : W.heap.size = k := by simpa [Value.ownBlock] using hk
    subst this
    exact hfresh
  · exact ho'
  · exact Reps.none _ _
end
end Go.Proofs.Ytbjlfenappnccaa.StrWords

end
section
-- Written by a program of this session (wip/tools/hprint.py, over the kit's printer), not by hand. Lean checks it.
namespace Go.Proofs.Ytbjlfenappnccaa.P
open Go.RowKit Go.Proofs.YtbjlfenappnccaaW.PrintWords Go.Proofs.YtbjlfenappnccaaW.PrintLast Go.Proofs.YtbjlfenappnccaaW.PrintMore
attribute [local go_sem] max2_int min2_int max_two min_two max_three min_three max_four min_four
set_option linter.unusedVariables false
set_option linter.unusedSimpArgs false

def errW : Option Int → Value
  | none => .nilIface
  | some c => .iface 0 (.int .i64 c)
theorem errW_none : errW none = .nilIface := rfl
theorem errW_some (c : Int) : errW (some c) = .iface 0 (.int .i64 c) := rfl
theorem info3 : (Try.prog.info? 3).map (fun i => (i.zero, i.size, i.bytes)) = some (some (.int .i64 0), 1, 8) := by kernel_rfl
theorem info9 : (Try.prog.info? 9).map (fun i => (i.zero, i.size, i.bytes)) = some (some (.string ⟨#[]⟩), 1, 16) := by kernel_rfl
-- the values' own types
def rd_L2 (xs : List (List Int)) (i : Int) : (List Int) := xs.getD i.toNat ([] : List Int)
theorem at_L2 {w : World} {A : Option Addr} {n : Nat} {xs : List (List Int)} (h : Kd.C (Kd.slice 5 (Kd.int .u8)) w A n xs) (i : Int) (h0 : 0 ≤ i) (h1 : i < n) : ∃ ad A0 c0, A = some ad ∧ w.cell? (ad.add i.toNat) = some (.slice A0 (rd_L2 xs i).length c0) ∧ (rd_L2 xs i).length ≤ c0 ∧ (Kd.int .u8).C w A0 (rd_L2 xs i).length (rd_L2 xs i) := by
  obtain ⟨ad, c, e, _, hK, hc0⟩ := Kd.C_get h ([] : List Int) i h0 h1
  have hc : ∀ j u, c[j]? = some u → w.cell? (ad.add (i.toNat * 1 + j)) = some u := hc0
  obtain ⟨A0, c0, rfl, l0, g0⟩ := hK
  exact ⟨ad, A0, c0, e, by have hq := hc 0 _ rfl; rwa [Nat.mul_one, Nat.add_zero] at hq, l0, g0⟩

def rd_L5 (xs : List (List ByteArray)) (i : Int) : (List ByteArray) := xs.getD i.toNat ([] : List ByteArray)
theorem at_L5 {w : World} {A : Option Addr} {n : Nat} {xs : List (List ByteArray)} (h : Kd.C (Kd.slice 9 Kd.string) w A n xs) (i : Int) (h0 : 0 ≤ i) (h1 : i < n) : ∃ ad A0 c0, A = some ad ∧ w.cell? (ad.add i.toNat) = some (.slice A0 (rd_L5 xs i).length c0) ∧ (rd_L5 xs i).length ≤ c0 ∧ Kd.string.C w A0 (rd_L5 xs i).length (rd_L5 xs i) := by
  obtain ⟨ad, c, e, _, hK, hc0⟩ := Kd.C_get h ([] : List ByteArray) i h0 h1
  have hc : ∀ j u, c[j]? = some u → w.cell? (ad.add (i.toNat * 1 + j)) = some u := hc0
  obtain ⟨A0, c0, rfl, l0, g0⟩ := hK
  exact ⟨ad, A0, c0, e, by have hq := hc 0 _ rfl; rwa [Nat.mul_one, Nat.add_zero] at hq, l0, g0⟩

/-! #### struct type 26 -/
structure S26 where
  f0 : Int
  f1 : Int
  f2 : Int
def z26 : S26 := ⟨(0 : Int), (0 : Int), (0 : Int)⟩
def k26 : Kd S26 := Kd.iso (Kd.pair (Kd.int .i64) (Kd.pair (Kd.int .i64) (Kd.int .i64))) (fun x : S26 => (x.f0, x.f1, x.f2))
theorem k26_open {w : World} {x : S26} {cs : List Value} (h : k26.K w x cs) : cs = [.int .i64 x.f0, .int .i64 x.f1, .int .i64 x.f2] := by
  obtain ⟨_, _, rfl, rfl, ⟨_, _, rfl, rfl, rfl⟩⟩ := h
  exact rfl
theorem k26_openM {w : World} {base : Nat} {ok : Nat → Prop} {x : S26} {cs : List Value} (h : k26.M w base ok x cs) : cs = [.int .i64 x.f0, .int .i64 x.f1, .int .i64 x.f2] := by
  obtain ⟨_, _, rfl, rfl, ⟨_, _, rfl, rfl, rfl⟩⟩ := h
  exact rfl
theorem k26_mk (w : World) (x : S26)  : k26.K w x [.int .i64 x.f0, .int .i64 x.f1, .int .i64 x.f2] := ⟨[.int .i64 x.f0], [.int .i64 x.f1, .int .i64 x.f2], rfl, rfl, ⟨[.int .i64 x.f1], [.int .i64 x.f2], rfl, rfl, rfl⟩⟩
theorem k26_mkM (w : World) (base : Nat) (ok : Nat → Prop) (x : S26)  : k26.M w base ok x [.int .i64 x.f0, .int .i64 x.f1, .int .i64 x.f2] := ⟨[.int .i64 x.f0], [.int .i64 x.f1, .int .i64 x.f2], rfl, rfl, ⟨[.int .i64 x.f1], [.int .i64 x.f2], rfl, rfl, rfl⟩⟩
def rd_T26 (xs : List S26) (i : Int) : S26 := xs.getD i.toNat z26
theorem at_T26 {w : World} {A : Option Addr} {n : Nat} {xs : List S26} (h : Kd.C k26 w A n xs) (i : Int) (h0 : 0 ≤ i) (h1 : i < n) : ∃ ad , A = some ad ∧ w.cell? (ad.add (i.toNat * 3)) = some (.int .i64 (rd_T26 xs i).f0) ∧ w.cell? ⟨(ad.add (i.toNat * 3)).block, (ad.add (i.toNat * 3)).off + 1, none⟩ = some (.int .i64 (rd_T26 xs i).f1) ∧ w.cell? ⟨(ad.add (i.toNat * 3)).block, (ad.add (i.toNat * 3)).off + 2, none⟩ = some (.int .i64 (rd_T26 xs i).f2) := by
  obtain ⟨ad, c, e, _, hK, hc0⟩ := Kd.C_get h z26 i h0 h1
  have hc : ∀ j u, c[j]? = some u → w.cell? (ad.add (i.toNat * 3 + j)) = some u := hc0
  obtain rfl := k26_open hK
  exact ⟨ad, e, hc 0 _ rfl, by rw [← add_field _ _ 1 (by omega)]; exact hc 1 _ rfl, by rw [← add_field _ _ 2 (by omega)]; exact hc 2 _ rfl⟩

/-! #### struct type 28 -/
structure S28 where
  f0 : Int
  f1 : Int
  f2 : (List ByteArray)
  f3 : Bool
  f4 : Int
  f5 : Int
  f6 : Int
  f7 : S26
def z28 : S28 := ⟨(0 : Int), (0 : Int), ([] : List ByteArray), false, (0 : Int), (0 : Int), (0 : Int), z26⟩
def k28 : Kd S28 := Kd.iso (Kd.pair (Kd.int .i64) (Kd.pair (Kd.int .i64) (Kd.pair (Kd.slice 9 Kd.string) (Kd.pair Kd.bool (Kd.pair (Kd.int .i64) (Kd.pair (Kd.int .i64) (Kd.pair (Kd.int .i64) k26))))))) (fun x : S28 => (x.f0, x.f1, x.f2, x.f3, x.f4, x.f5, x.f6, x.f7))
theorem k28_open {w : World} {x : S28} {cs : List Value} (h : k28.K w x cs) : ∃ A2 c2, cs = [.int .i64 x.f0, .int .i64 x.f1, .slice A2 x.f2.length c2, .bool x.f3, .int .i64 x.f4, .int .i64 x.f5, .int .i64 x.f6, .int .i64 x.f7.f0, .int .i64 x.f7.f1, .int .i64 x.f7.f2] ∧ x.f2.length ≤ c2 ∧ Kd.string.C w A2 x.f2.length x.f2 := by
  obtain ⟨_, _, rfl, rfl, ⟨_, _, rfl, rfl, ⟨_, _, rfl, ⟨A2, c2, rfl, l2, g2⟩, ⟨_, _, rfl, rfl, ⟨_, _, rfl, rfl, ⟨_, _, rfl, rfl, ⟨_, _, rfl, rfl, s7⟩⟩⟩⟩⟩⟩⟩ := h
  obtain rfl := k26_open s7
  exact ⟨A2, c2, rfl, l2, g2⟩
theorem k28_openM {w : World} {base : Nat} {ok : Nat → Prop} {x : S28} {cs : List Value} (h : k28.M w base ok x cs) : ∃ v2, cs = [.int .i64 x.f0, .int .i64 x.f1, v2, .bool x.f3, .int .i64 x.f4, .int .i64 x.f5, .int .i64 x.f6, .int .i64 x.f7.f0, .int .i64 x.f7.f1, .int .i64 x.f7.f2] ∧ Kd.string.R 9 w base ok v2 x.f2 := by
  obtain ⟨_, _, rfl, rfl, ⟨_, _, rfl, rfl, ⟨_, _, rfl, ⟨v2, rfl, g2⟩, ⟨_, _, rfl, rfl, ⟨_, _, rfl, rfl, ⟨_, _, rfl, rfl, ⟨_, _, rfl, rfl, s7⟩⟩⟩⟩⟩⟩⟩ := h
  obtain rfl := k26_openM s7
  exact ⟨v2, rfl, g2⟩
theorem k28_mk (w : World) (x : S28) {A2 : Option Addr} {c2 : Nat} (l2 : x.f2.length ≤ c2) (g2 : Kd.string.C w A2 x.f2.length x.f2) : k28.K w x [.int .i64 x.f0, .int .i64 x.f1, .slice A2 x.f2.length c2, .bool x.f3, .int .i64 x.f4, .int .i64 x.f5, .int .i64 x.f6, .int .i64 x.f7.f0, .int .i64 x.f7.f1, .int .i64 x.f7.f2] := ⟨[.int .i64 x.f0], [.int .i64 x.f1, .slice A2 x.f2.length c2, .bool x.f3, .int .i64 x.f4, .int .i64 x.f5, .int .i64 x.f6, .int .i64 x.f7.f0, .int .i64 x.f7.f1, .int .i64 x.f7.f2], rfl, rfl, ⟨[.int .i64 x.f1], [.slice A2 x.f2.length c2, .bool x.f3, .int .i64 x.f4, .int .i64 x.f5, .int .i64 x.f6, .int .i64 x.f7.f0, .int .i64 x.f7.f1, .int .i64 x.f7.f2], rfl, rfl, ⟨[.slice A2 x.f2.length c2], [.bool x.f3, .int .i64 x.f4, .int .i64 x.f5, .int .i64 x.f6, .int .i64 x.f7.f0, .int .i64 x.f7.f1, .int .i64 x.f7.f2], rfl, ⟨A2, c2, rfl, l2, g2⟩, ⟨[.bool x.f3], [.int .i64 x.f4, .int .i64 x.f5, .int .i64 x.f6, .int .i64 x.f7.f0, .int .i64 x.f7.f1, .int .i64 x.f7.f2], rfl, rfl, ⟨[.int .i64 x.f4], [.int .i64 x.f5, .int .i64 x.f6, .int .i64 x.f7.f0, .int .i64 x.f7.f1, .int .i64 x.f7.f2], rfl, rfl, ⟨[.int .i64 x.f5], [.int .i64 x.f6, .int .i64 x.f7.f0, .int .i64 x.f7.f1, .int .i64 x.f7.f2], rfl, rfl, ⟨[.int .i64 x.f6], [.int .i64 x.f7.f0, .int .i64 x.f7.f1, .int .i64 x.f7.f2], rfl, rfl, (k26_mk w x.f7 )⟩⟩⟩⟩⟩⟩⟩
theorem k28_mkM (w : World) (base : Nat) (ok : Nat → Prop) (x : S28) {v2 : Value} (g2 : Kd.string.R 9 w base ok v2 x.f2) : k28.M w base ok x [.int .i64 x.f0, .int .i64 x.f1, v2, .bool x.f3, .int .i64 x.f4, .int .i64 x.f5, .int .i64 x.f6, .int .i64 x.f7.f0, .int .i64 x.f7.f1, .int .i64 x.f7.f2] := ⟨[.int .i64 x.f0], [.int .i64 x.f1, v2, .bool x.f3, .int .i64 x.f4, .int .i64 x.f5, .int .i64 x.f6, .int .i64 x.f7.f0, .int .i64 x.f7.f1, .int .i64 x.f7.f2], rfl, rfl, ⟨[.int .i64 x.f1], [v2, .bool x.f3, .int .i64 x.f4, .int .i64 x.f5, .int .i64 x.f6, .int .i64 x.f7.f0, .int .i64 x.f7.f1, .int .i64 x.f7.f2], rfl, rfl, ⟨[v2], [.bool x.f3, .int .i64 x.f4, .int .i64 x.f5, .int .i64 x.f6, .int .i64 x.f7.f0, .int .i64 x.f7.f1, .int .i64 x.f7.f2], rfl, ⟨v2, rfl, g2⟩, ⟨[.bool x.f3], [.int .i64 x.f4, .int .i64 x.f5, .int .i64 x.f6, .int .i64 x.f7.f0, .int .i64 x.f7.f1, .int .i64 x.f7.f2], rfl, rfl, ⟨[.int .i64 x.f4], [.int .i64 x.f5, .int .i64 x.f6, .int .i64 x.f7.f0, .int .i64 x.f7.f1, .int .i64 x.f7.f2], rfl, rfl, ⟨[.int .i64 x.f5], [.int .i64 x.f6, .int .i64 x.f7.f0, .int .i64 x.f7.f1, .int .i64 x.f7.f2], rfl, rfl, ⟨[.int .i64 x.f6], [.int .i64 x.f7.f0, .int .i64 x.f7.f1, .int .i64 x.f7.f2], rfl, rfl, (k26_mkM w base ok x.f7 )⟩⟩⟩⟩⟩⟩⟩
def rd_T28 (xs : List S28) (i : Int) : S28 := xs.getD i.toNat z28
theorem at_T28 {w : World} {A : Option Addr} {n : Nat} {xs : List S28} (h : Kd.C k28 w A n xs) (i : Int) (h0 : 0 ≤ i) (h1 : i < n) : ∃ ad A2 c2, A = some ad ∧ w.cell? (ad.add (i.toNat * 10)) = some (.int .i64 (rd_T28 xs i).f0) ∧ w.cell? ⟨(ad.add (i.toNat * 10)).block, (ad.add (i.toNat * 10)).off + 1, none⟩ = some (.int .i64 (rd_T28 xs i).f1) ∧ w.cell? ⟨(ad.add (i.toNat * 10)).block, (ad.add (i.toNat * 10)).off + 2, none⟩ = some (.slice A2 (rd_T28 xs i).f2.length c2) ∧ w.cell? ⟨(ad.add (i.toNat * 10)).block, (ad.add (i.toNat * 10)).off + 3, none⟩ = some (.bool (rd_T28 xs i).f3) ∧ w.cell? ⟨(ad.add (i.toNat * 10)).block, (ad.add (i.toNat * 10)).off + 4, none⟩ = some (.int .i64 (rd_T28 xs i).f4) ∧ w.cell? ⟨(ad.add (i.toNat * 10)).block, (ad.add (i.toNat * 10)).off + 5, none⟩ = some (.int .i64 (rd_T28 xs i).f5) ∧ w.cell? ⟨(ad.add (i.toNat * 10)).block, (ad.add (i.toNat * 10)).off + 6, none⟩ = some (.int .i64 (rd_T28 xs i).f6) ∧ w.cell? ⟨(ad.add (i.toNat * 10)).block, (ad.add (i.toNat * 10)).off + 7, none⟩ = some (.int .i64 (rd_T28 xs i).f7.f0) ∧ w.cell? ⟨(ad.add (i.toNat * 10)).block, (ad.add (i.toNat * 10)).off + 8, none⟩ = some (.int .i64 (rd_T28 xs i).f7.f1) ∧ w.cell? ⟨(ad.add (i.toNat * 10)).block, (ad.add (i.toNat * 10)).off + 9, none⟩ = some (.int .i64 (rd_T28 xs i).f7.f2) ∧ (rd_T28 xs i).f2.length ≤ c2 ∧ Kd.string.C w A2 (rd_T28 xs i).f2.length (rd_T28 xs i).f2 := by
  obtain ⟨ad, c, e, _, hK, hc0⟩ := Kd.C_get h z28 i h0 h1
  have hc : ∀ j u, c[j]? = some u → w.cell? (ad.add (i.toNat * 10 + j)) = some u := hc0
  obtain ⟨A2, c2, rfl, l2, g2⟩ := k28_open hK
  exact ⟨ad, A2, c2, e, hc 0 _ rfl, by rw [← add_field _ _ 1 (by omega)]; exact hc 1 _ rfl, by rw [← add_field _ _ 2 (by omega)]; exact hc 2 _ rfl, by rw [← add_field _ _ 3 (by omega)]; exact hc 3 _ rfl, by rw [← add_field _ _ 4 (by omega)]; exact hc 4 _ rfl, by rw [← add_field _ _ 5 (by omega)]; exact hc 5 _ rfl, by rw [← add_field _ _ 6 (by omega)]; exact hc 6 _ rfl, by rw [← add_field _ _ 7 (by omega)]; exact hc 7 _ rfl, by rw [← add_field _ _ 8 (by omega)]; exact hc 8 _ rfl, by rw [← add_field _ _ 9 (by omega)]; exact hc 9 _ rfl, l2, g2⟩

end Go.Proofs.Ytbjlfenappnccaa.P

end
section
-- Written by a program of this session (wip/tools/hprint.py, over the kit's printer), not by hand. Lean checks it.
namespace Go.Proofs.Ytbjlfenappnccaa.P
open Go.RowKit Go.Proofs.YtbjlfenappnccaaW.PrintWords Go.Proofs.Ytbjlfenappnccaa.OpenWords
set_option linter.unusedVariables false
def ok26 (x : S26) : Prop := ((Lit.int .i64 x.f0).wf = true) ∧ ((Lit.int .i64 x.f1).wf = true) ∧ (Lit.int .i64 x.f2).wf = true
def bk26 (x : S26) : Nat := (1 + (1 + 1)) + 1
instance : Inhabited S26 := ⟨z26⟩
theorem opens26 : Opens Try.prog 26 k26 ok26 bk26 :=
  opens_struct (fun x : S26 => (x.f0, x.f1, x.f2)) (fun a => ⟨a.1, a.2.1, a.2.2⟩) (fun _ => rfl) Try.underlying26 (by kernel_rfl) (opensF_cons (opens_int Try.underlying3 (by kernel_rfl)) rfl (opensF_cons (opens_int Try.underlying3 (by kernel_rfl)) rfl (opensF_one (opens_int Try.underlying3 (by kernel_rfl)))))
def ok28 (x : S28) : Prop := ((Lit.int .i64 x.f0).wf = true) ∧ ((Lit.int .i64 x.f1).wf = true) ∧ (x.f2.length ≤ maxLen ∧ x.f2.length * 16 ≤ 140737488351232 ∧ ∀ y ∈ x.f2, y.size ≤ 140737488351232) ∧ (True) ∧ ((Lit.int .i64 x.f4).wf = true) ∧ ((Lit.int .i64 x.f5).wf = true) ∧ ((Lit.int .i64 x.f6).wf = true) ∧ ok26 x.f7
def bk28 (x : S28) : Nat := (1 + (1 + (((x.f2.map fun x => (x.size + 1)).sum + 1) + (1 + (1 + (1 + (1 + (bk26 x.f7)))))))) + 1
instance : Inhabited S28 := ⟨z28⟩
theorem opens28 : Opens Try.prog 28 k28 ok28 bk28 :=
  opens_struct (fun x : S28 => (x.f0, x.f1, x.f2, x.f3, x.f4, x.f5, x.f6, x.f7)) (fun a => ⟨a.1, a.2.1, a.2.2.1, a.2.2.2.1, a.2.2.2.2.1, a.2.2.2.2.2.1, a.2.2.2.2.2.2.1, a.2.2.2.2.2.2.2⟩) (fun _ => rfl) Try.underlying28 (by kernel_rfl) (opensF_cons (opens_int Try.underlying3 (by kernel_rfl)) rfl (opensF_cons (opens_int Try.underlying3 (by kernel_rfl)) rfl (opensF_cons (opens_slice 16 Try.underlying24 (by kernel_rfl) (by kernel_rfl) (opens_string Try.underlying9 (by kernel_rfl))) rfl (opensF_cons (opens_bool Try.underlying4 (by kernel_rfl)) rfl (opensF_cons (opens_int Try.underlying3 (by kernel_rfl)) rfl (opensF_cons (opens_int Try.underlying3 (by kernel_rfl)) rfl (opensF_cons (opens_int Try.underlying3 (by kernel_rfl)) rfl (opensF_one opens26))))))))
end Go.Proofs.Ytbjlfenappnccaa.P

end
section
-- Written by a program of this session (wip/tools/hprint.py, over the kit's printer), not by hand. Lean checks it.
namespace Go.Proofs.Ytbjlfenappnccaa.P
open Go.RowKit Go.Proofs.YtbjlfenappnccaaW.PrintWords Go.Proofs.YtbjlfenappnccaaW.PrintLast Go.Proofs.YtbjlfenappnccaaW.PrintMore
attribute [local go_sem] max2_int min2_int max_two min_two max_three min_three max_four min_four
set_option linter.unusedVariables false
set_option linter.unusedSimpArgs false

/-! ### nums_Compare: function 19 -/
def nums_Compare.l0 : Nat → ByteArray → ByteArray → Int → Int → Option (Int)
  | 0, _, _, _, _ => none
  | k + 1, x0, x1, x10, x11 => if x11 < x10 then (if 0 ≤ x11 then (if x11 < (x0.size : Int) then (if x11 < (x1.size : Int) then (if (bt x0 x11) < (bt x1 x11) then (some (-1)) else (if (bt x0 x11) > (bt x1 x11) then (some 1) else (nums_Compare.l0 k x0 x1 x10 (wrap64 (x11 + 1))))) else (none)) else (none)) else (none)) else (if (x0.size : Int) < (x1.size : Int) then (some (-1)) else (if (x0.size : Int) > (x1.size : Int) then (some 1) else (some 0)))
def nums_Compare.f (k : Nat) (a0 : ByteArray) (a1 : ByteArray) : Option (Int) := nums_Compare.l0 k a0 a1 (mn (a0.size : Int) (a1.size : Int)) 0
theorem nums_Compare.mono_l : ∀ k, (∀ y0 y1 y2 y3, LeO (nums_Compare.l0 k y0 y1 y2 y3) (nums_Compare.l0 (k + 1) y0 y1 y2 y3))
  | 0 => fun _ _ _ _ r h => by simp [nums_Compare.l0] at h
  | k + 1 => by
    have ih0 := nums_Compare.mono_l k
    · intro y0 y1 y2 y3
      unfold nums_Compare.l0
      repeat' first
      | (with_reducible exact ih0 _ _ _ _)
      | (with_reducible exact LeO.refl _)
      | (with_reducible exact LeO.none _)
      | (with_reducible refine LeO.ite ?_ ?_)
      | (with_reducible refine LeO.bind ?_ (fun _ => ?_))
      | exact ih0 _ _ _ _
      | exact LeO.none _
      | refine LeO.ite ?_ ?_
      | refine LeO.bind ?_ (fun _ => ?_)
theorem nums_Compare.mono : ∀ a0 a1 k, LeO (nums_Compare.f k a0 a1) (nums_Compare.f (k + 1) a0 a1) := by
  intro a0 a1 k
  have ih0 := nums_Compare.mono_l k
  unfold nums_Compare.f
  repeat' first
      | (with_reducible exact ih0 _ _ _ _)
      | (with_reducible exact LeO.refl _)
      | (with_reducible exact LeO.none _)
      | (with_reducible refine LeO.ite ?_ ?_)
      | (with_reducible refine LeO.bind ?_ (fun _ => ?_))
      | exact ih0 _ _ _ _
      | exact LeO.none _
      | refine LeO.ite ?_ ?_
      | refine LeO.bind ?_ (fun _ => ?_)
set_option maxHeartbeats 8000000 in
set_option maxRecDepth 100000 in
theorem nums_Compare.calls (k : Nat) (a0 : ByteArray) (a1 : ByteArray) (r : Int) (w : World) (h : nums_Compare.f k a0 a1 = some r) :
    Calls Try.prog 19 #[.string a0, .string a1] w fun e w' => e = .returned (.int .i64 r) ∧ Below w.heap.size w w' := by
  have HB := Aside0.mk (Below.refl w.heap.size w)
  have H : (nums_Compare.l0 k a0 a1 (mn (a0.size : Int) (a1.size : Int)) 0) = some r := h
  clear h
  obtain ⟨ji3, hji3⟩ : ∃ j_ : Int, (mn (a0.size : Int) (a1.size : Int)) = j_ := ⟨_, rfl⟩
  replace H : (nums_Compare.l0 k a0 a1 ji3 0) = some r := by first | (rw [hji3] at H; exact H) | (simp only [hji3] at H ⊢; exact H)
  (try (have hji3l : 0 ≤ ji3 := by (rw [← hji3]; unfold mn; (repeat' split) <;> omega)))
  (try (have hji3m : 0 ≤ ji3 := by omega))
  have hji3_ : (if (a1.size : Int) < (a0.size : Int) then (a1.size : Int) else (a0.size : Int)) = ji3 := hji3
  (try (have hji3n : (if a1.size < a0.size then (a1.size : Int) else (a0.size : Int)) = ji3 := by (rw [← hji3_]; (repeat' split) <;> omega)))
  have H' := Aside0.mk H
  clear H
  go_enter Try.func19, Try.ntmps19
  go_wp2
  repeat (go_quiet (fail); try go_wp2)
  go_loopg [11] k (fun kq v11 w' => ∃ (x11_1 : Int), v11 = .int .i64 x11_1 ∧ Aside0 (nums_Compare.l0 kq a0 a1 ji3 x11_1 = some r) ∧ Aside0 (kq ≤ k) ∧ Aside0 (Below w.heap.size w w'))
  case atStart => exact ⟨(0), (by first | rfl | (simp; done) | (simp [*]; done)), H', ⟨Nat.le_refl _⟩, ⟨by repeat (first | (with_reducible first | exact HB.out | apply below_alloc | apply pw_below_drewN | apply below_drew1) | exact HB.out)⟩⟩
  case round =>
    clear H'
    try clear c1
    try clear p2
    obtain ⟨x11_1, rfl, HA, HK1, HB⟩ := hrel
    cases gk with
    | zero => exact absurd HA.out (by simp [nums_Compare.l0])
    | succ k1 =>
      have H := HA.out
      clear HA
      simp only [nums_Compare.l0] at H
      by_cases c4 : x11_1 < ji3
      · rw [if_pos c4] at H
        have c4b0 : decide (x11_1 < ji3) = true := decide_eq_true c4
        clear c4
        by_cases c5 : 0 ≤ x11_1
        · rw [if_pos c5] at H
          have c5b0 : decide (0 ≤ x11_1) = true := decide_eq_true c5
          clear c5
          by_cases c6 : x11_1 < (a0.size : Int)
          · rw [if_pos c6] at H
            have c6b0 : decide (x11_1 < (a0.size : Int)) = true := decide_eq_true c6
            clear c6
            by_cases c8 : x11_1 < (a1.size : Int)
            · rw [if_pos c8] at H
              have c8b0 : decide (x11_1 < (a1.size : Int)) = true := decide_eq_true c8
              clear c8
              by_cases c10 : (bt a0 x11_1) < (bt a1 x11_1)
              · rw [if_pos c10] at H
                have c10b0 : decide ((bt a0 x11_1) < (bt a1 x11_1)) = true := decide_eq_true c10
                clear c10
                obtain rfl := Option.some.inj H
                have p7 : 0 ≤ (x11_1 : Int) := of_decide_eq_true (by first | (with_reducible assumption) | assumption)
                have q7 : x11_1 < (a0.size : Int) := of_decide_eq_true (by first | (with_reducible assumption) | assumption)
                have hx7 := bt_at a0 x11_1
                replace p7 := eq_true p7
                replace q7 := eq_true q7
                have p9 : 0 ≤ (x11_1 : Int) := of_decide_eq_true (by first | (with_reducible assumption) | assumption)
                have q9 : x11_1 < (a1.size : Int) := of_decide_eq_true (by first | (with_reducible assumption) | assumption)
                have hx9 := bt_at a1 x11_1
                replace p9 := eq_true p9
                replace q9 := eq_true q9
                go_wp2
                repeat (go_quiet (fail); try go_wp2)
                go_ret
                exact ⟨by first | rfl | (simp [errW_none, errW_some] <;> rfl) | (simp only [← hji3]; first | rfl | (simp [errW_none, errW_some] <;> rfl)) | (simp [*, errW_none, errW_some] <;> rfl), by repeat (first | (with_reducible first | exact HB.out | apply below_alloc | apply pw_below_drewN | apply below_drew1) | exact HB.out)⟩
              · rw [if_neg c10] at H
                have c10b0 : decide ((bt a0 x11_1) < (bt a1 x11_1)) = false := decide_eq_false c10
                clear c10
                by_cases c13 : (bt a0 x11_1) > (bt a1 x11_1)
                · rw [if_pos c13] at H
                  have c13b0 : decide ((bt a1 x11_1) < (bt a0 x11_1)) = true := decide_eq_true c13
                  clear c13
                  obtain rfl := Option.some.inj H
                  have p7 : 0 ≤ (x11_1 : Int) := of_decide_eq_true (by first | (with_reducible assumption) | assumption)
                  have q7 : x11_1 < (a0.size : Int) := of_decide_eq_true (by first | (with_reducible assumption) | assumption)
                  have hx7 := bt_at a0 x11_1
                  replace p7 := eq_true p7
                  replace q7 := eq_true q7
                  have p9 : 0 ≤ (x11_1 : Int) := of_decide_eq_true (by first | (with_reducible assumption) | assumption)
                  have q9 : x11_1 < (a1.size : Int) := of_decide_eq_true (by first | (with_reducible assumption) | assumption)
                  have hx9 := bt_at a1 x11_1
                  replace p9 := eq_true p9
                  replace q9 := eq_true q9
                  have p11 : 0 ≤ (x11_1 : Int) := of_decide_eq_true (by first | (with_reducible assumption) | assumption)
                  have q11 : x11_1 < (a0.size : Int) := of_decide_eq_true (by first | (with_reducible assumption) | assumption)
                  have hx11 := bt_at a0 x11_1
                  replace p11 := eq_true p11
                  replace q11 := eq_true q11
                  have p12 : 0 ≤ (x11_1 : Int) := of_decide_eq_true (by first | (with_reducible assumption) | assumption)
                  have q12 : x11_1 < (a1.size : Int) := of_decide_eq_true (by first | (with_reducible assumption) | assumption)
                  have hx12 := bt_at a1 x11_1
                  replace p12 := eq_true p12
                  replace q12 := eq_true q12
                  go_wp2
                  repeat (go_quiet (fail); try go_wp2)
                  go_ret
                  exact ⟨by first | rfl | (simp [errW_none, errW_some] <;> rfl) | (simp only [← hji3]; first | rfl | (simp [errW_none, errW_some] <;> rfl)) | (simp [*, errW_none, errW_some] <;> rfl), by repeat (first | (with_reducible first | exact HB.out | apply below_alloc | apply pw_below_drewN | apply below_drew1) | exact HB.out)⟩
                · rw [if_neg c13] at H
                  have c13b0 : decide ((bt a1 x11_1) < (bt a0 x11_1)) = false := decide_eq_false c13
                  clear c13
                  have H' := Aside0.mk H
                  clear H
                  have p7 : 0 ≤ (x11_1 : Int) := of_decide_eq_true (by first | (with_reducible assumption) | assumption)
                  have q7 : x11_1 < (a0.size : Int) := of_decide_eq_true (by first | (with_reducible assumption) | assumption)
                  have hx7 := bt_at a0 x11_1
                  replace p7 := eq_true p7
                  replace q7 := eq_true q7
                  have p9 : 0 ≤ (x11_1 : Int) := of_decide_eq_true (by first | (with_reducible assumption) | assumption)
                  have q9 : x11_1 < (a1.size : Int) := of_decide_eq_true (by first | (with_reducible assumption) | assumption)
                  have hx9 := bt_at a1 x11_1
                  replace p9 := eq_true p9
                  replace q9 := eq_true q9
                  have p11 : 0 ≤ (x11_1 : Int) := of_decide_eq_true (by first | (with_reducible assumption) | assumption)
                  have q11 : x11_1 < (a0.size : Int) := of_decide_eq_true (by first | (with_reducible assumption) | assumption)
                  have hx11 := bt_at a0 x11_1
                  replace p11 := eq_true p11
                  replace q11 := eq_true q11
                  have p12 : 0 ≤ (x11_1 : Int) := of_decide_eq_true (by first | (with_reducible assumption) | assumption)
                  have q12 : x11_1 < (a1.size : Int) := of_decide_eq_true (by first | (with_reducible assumption) | assumption)
                  have hx12 := bt_at a1 x11_1
                  replace p12 := eq_true p12
                  replace q12 := eq_true q12
                  go_wp2
                  repeat (go_quiet (fail); try go_wp2)
                  go_roundg k1
                  case measure => have := HK1.out; omega
                  case rel => exact ⟨(wrap64 (x11_1 + 1)), (by first | rfl | (simp; done) | (simp [*]; done)), H', ⟨by have := HK1.out; omega⟩, ⟨by repeat (first | (with_reducible first | exact HB.out | apply below_alloc | apply pw_below_drewN | apply below_drew1) | exact HB.out)⟩⟩
            · rw [if_neg c8] at H
              exact absurd H (by simp)
          · rw [if_neg c6] at H
            exact absurd H (by simp)
        · rw [if_neg c5] at H
          exact absurd H (by simp)
      · rw [if_neg c4] at H
        have c4b0 : decide (x11_1 < ji3) = false := decide_eq_false c4
        clear c4
        by_cases c14 : (a0.size : Int) < (a1.size : Int)
        · rw [if_pos c14] at H
          have c14b0 : decide ((a0.size : Int) < (a1.size : Int)) = true := decide_eq_true c14
          have c14b1 : decide (a0.size < a1.size) = true := decide_eq_true (Int.ofNat_lt.mp c14)
          clear c14
          obtain rfl := Option.some.inj H
          go_wp2
          repeat (go_quiet (fail); try go_wp2)
          go_ret
          exact ⟨by first | rfl | (simp [errW_none, errW_some] <;> rfl) | (simp only [← hji3]; first | rfl | (simp [errW_none, errW_some] <;> rfl)) | (simp [*, errW_none, errW_some] <;> rfl), by repeat (first | (with_reducible first | exact HB.out | apply below_alloc | apply pw_below_drewN | apply below_drew1) | exact HB.out)⟩
        · rw [if_neg c14] at H
          have c14b0 : decide ((a0.size : Int) < (a1.size : Int)) = false := decide_eq_false c14
          have c14b1 : decide (a0.size < a1.size) = false := decide_eq_false (fun h => c14 (Int.ofNat_lt.mpr h))
          clear c14
          by_cases c15 : (a0.size : Int) > (a1.size : Int)
          · rw [if_pos c15] at H
            have c15b0 : decide ((a1.size : Int) < (a0.size : Int)) = true := decide_eq_true c15
            have c15b1 : decide (a1.size < a0.size) = true := decide_eq_true (Int.ofNat_lt.mp c15)
            clear c15
            obtain rfl := Option.some.inj H
            go_wp2
            repeat (go_quiet (fail); try go_wp2)
            go_ret
            exact ⟨by first | rfl | (simp [errW_none, errW_some] <;> rfl) | (simp only [← hji3]; first | rfl | (simp [errW_none, errW_some] <;> rfl)) | (simp [*, errW_none, errW_some] <;> rfl), by repeat (first | (with_reducible first | exact HB.out | apply below_alloc | apply pw_below_drewN | apply below_drew1) | exact HB.out)⟩
          · rw [if_neg c15] at H
            have c15b0 : decide ((a1.size : Int) < (a0.size : Int)) = false := decide_eq_false c15
            have c15b1 : decide (a1.size < a0.size) = false := decide_eq_false (fun h => c15 (Int.ofNat_lt.mpr h))
            clear c15
            obtain rfl := Option.some.inj H
            go_wp2
            repeat (go_quiet (fail); try go_wp2)
            go_ret
            exact ⟨by first | rfl | (simp [errW_none, errW_some] <;> rfl) | (simp only [← hji3]; first | rfl | (simp [errW_none, errW_some] <;> rfl)) | (simp [*, errW_none, errW_some] <;> rfl), by repeat (first | (with_reducible first | exact HB.out | apply below_alloc | apply pw_below_drewN | apply below_drew1) | exact HB.out)⟩

end Go.Proofs.Ytbjlfenappnccaa.P

end
section
/- nums.Compare reads and draws; it lays nothing. The printed walk, its promise made sharper (wip/parts/mkcmpq.py). -/
namespace Go.Proofs.Ytbjlfenappnccaa.P
open Go.RowKit Go.Proofs.YtbjlfenappnccaaW.PrintWords Go.Proofs.YtbjlfenappnccaaW.PrintLast Go.Proofs.YtbjlfenappnccaaW.PrintMore
attribute [local go_sem] max2_int min2_int max_two min_two max_three min_three max_four min_four
set_option linter.unusedVariables false
set_option linter.unusedSimpArgs false
/-- the world, some draws on -/
def Drew (w w' : World) : Prop := ∃ q, w' = w.drewN q
theorem Drew.refl (w : World) : Drew w w := ⟨0, rfl⟩
theorem Drew.drewN {w W : World} (h : Drew w W) (n : Nat) : Drew w (W.drewN n) := by obtain ⟨q, rfl⟩ := h; exact ⟨q + n, World.drewN_drewN ..⟩
theorem Drew.drew {w W : World} (h : Drew w W) : Drew w W.drew := h.drewN 1
set_option maxHeartbeats 8000000 in
set_option maxRecDepth 100000 in
theorem nums_Compare.drew (k : Nat) (a0 : ByteArray) (a1 : ByteArray) (r : Int) (w : World) (h : nums_Compare.f k a0 a1 = some r) :
    Calls Try.prog 19 #[.string a0, .string a1] w fun e w' => e = .returned (.int .i64 r) ∧ Drew w w' := by
  have HB := Aside0.mk (Drew.refl w)
  have H : (nums_Compare.l0 k a0 a1 (mn (a0.size : Int) (a1.size : Int)) 0) = some r := h
  clear h
  obtain ⟨ji3, hji3⟩ : ∃ j_ : Int, (mn (a0.size : Int) (a1.size : Int)) = j_ := ⟨_, rfl⟩
  replace H : (nums_Compare.l0 k a0 a1 ji3 0) = some r := by first | (rw [hji3] at H; exact H) | (simp only [hji3] at H ⊢; exact H)
  (try (have hji3l : 0 ≤ ji3 := by (rw [← hji3]; unfold mn; (repeat' split) <;> omega)))
  (try (have hji3m : 0 ≤ ji3 := by omega))
  have hji3_ : (if (a1.size : Int) < (a0.size : Int) then (a1.size : Int) else (a0.size : Int)) = ji3 := hji3
  (try (have hji3n : (if a1.size < a0.size then (a1.size : Int) else (a0.size : Int)) = ji3 := by (rw [← hji3_]; (repeat' split) <;> omega)))
  have H' := Aside0.mk H
  clear H
  go_enter Try.func19, Try.ntmps19
  go_wp2
  repeat (go_quiet (fail); try go_wp2)
  go_loopg [11] k (fun kq v11 w' => ∃ (x11_1 : Int), v11 = .int .i64 x11_1 ∧ Aside0 (nums_Compare.l0 kq a0 a1 ji3 x11_1 = some r) ∧ Aside0 (kq ≤ k) ∧ Aside0 (Drew w w'))
  case atStart => exact ⟨(0), (by first | rfl | (simp; done) | (simp [*]; done)), H', ⟨Nat.le_refl _⟩, ⟨by repeat (first | (with_reducible first | exact HB.out | apply Drew.drewN | apply Drew.drew) | exact HB.out)⟩⟩
  case round =>
    clear H'
    try clear c1
    try clear p2
    obtain ⟨x11_1, rfl, HA, HK1, HB⟩ := hrel
    cases gk with
    | zero => exact absurd HA.out (by simp [nums_Compare.l0])
    | succ k1 =>
      have H := HA.out
      clear HA
      simp only [nums_Compare.l0] at H
      by_cases c4 : x11_1 < ji3
      · rw [if_pos c4] at H
        have c4b0 : decide (x11_1 < ji3) = true := decide_eq_true c4
        clear c4
        by_cases c5 : 0 ≤ x11_1
        · rw [if_pos c5] at H
          have c5b0 : decide (0 ≤ x11_1) = true := decide_eq_true c5
          clear c5
          by_cases c6 : x11_1 < (a0.size : Int)
          · rw [if_pos c6] at H
            have c6b0 : decide (x11_1 < (a0.size : Int)) = true := decide_eq_true c6
            clear c6
            by_cases c8 : x11_1 < (a1.size : Int)
            · rw [if_pos c8] at H
              have c8b0 : decide (x11_1 < (a1.size : Int)) = true := decide_eq_true c8
              clear c8
              by_cases c10 : (bt a0 x11_1) < (bt a1 x11_1)
              · rw [if_pos c10] at H
                have c10b0 : decide ((bt a0 x11_1) < (bt a1 x11_1)) = true := decide_eq_true c10
                clear c10
                obtain rfl := Option.some.inj H
                have p7 : 0 ≤ (x11_1 : Int) := of_decide_eq_true (by first | (with_reducible assumption) | assumption)
                have q7 : x11_1 < (a0.size : Int) := of_decide_eq_true (by first | (with_reducible assumption) | assumption)
                have hx7 := bt_at a0 x11_1
                replace p7 := eq_true p7
                replace q7 := eq_true q7
                have p9 : 0 ≤ (x11_1 : Int) := of_decide_eq_true (by first | (with_reducible assumption) | assumption)
                have q9 : x11_1 < (a1.size : Int) := of_decide_eq_true (by first | (with_reducible assumption) | assumption)
                have hx9 := bt_at a1 x11_1
                replace p9 := eq_true p9
                replace q9 := eq_true q9
                go_wp2
                repeat (go_quiet (fail); try go_wp2)
                go_ret
                exact ⟨by first | rfl | (simp [errW_none, errW_some] <;> rfl) | (simp only [← hji3]; first | rfl | (simp [errW_none, errW_some] <;> rfl)) | (simp [*, errW_none, errW_some] <;> rfl), by repeat (first | (with_reducible first | exact HB.out | apply Drew.drewN | apply Drew.drew) | exact HB.out)⟩
              · rw [if_neg c10] at H
                have c10b0 : decide ((bt a0 x11_1) < (bt a1 x11_1)) = false := decide_eq_false c10
                clear c10
                by_cases c13 : (bt a0 x11_1) > (bt a1 x11_1)
                · rw [if_pos c13] at H
                  have c13b0 : decide ((bt a1 x11_1) < (bt a0 x11_1)) = true := decide_eq_true c13
                  clear c13
                  obtain rfl := Option.some.inj H
                  have p7 : 0 ≤ (x11_1 : Int) := of_decide_eq_true (by first | (with_reducible assumption) | assumption)
                  have q7 : x11_1 < (a0.size : Int) := of_decide_eq_true (by first | (with_reducible assumption) | assumption)
                  have hx7 := bt_at a0 x11_1
                  replace p7 := eq_true p7
                  replace q7 := eq_true q7
                  have p9 : 0 ≤ (x11_1 : Int) := of_decide_eq_true (by first | (with_reducible assumption) | assumption)
                  have q9 : x11_1 < (a1.size : Int) := of_decide_eq_true (by first | (with_reducible assumption) | assumption)
                  have hx9 := bt_at a1 x11_1
                  replace p9 := eq_true p9
                  replace q9 := eq_true q9
                  have p11 : 0 ≤ (x11_1 : Int) := of_decide_eq_true (by first | (with_reducible assumption) | assumption)
                  have q11 : x11_1 < (a0.size : Int) := of_decide_eq_true (by first | (with_reducible assumption) | assumption)
                  have hx11 := bt_at a0 x11_1
                  replace p11 := eq_true p11
                  replace q11 := eq_true q11
                  have p12 : 0 ≤ (x11_1 : Int) := of_decide_eq_true (by first | (with_reducible assumption) | assumption)
                  have q12 : x11_1 < (a1.size : Int) := of_decide_eq_true (by first | (with_reducible assumption) | assumption)
                  have hx12 := bt_at a1 x11_1
                  replace p12 := eq_true p12
                  replace q12 := eq_true q12
                  go_wp2
                  repeat (go_quiet (fail); try go_wp2)
                  go_ret
                  exact ⟨by first | rfl | (simp [errW_none, errW_some] <;> rfl) | (simp only [← hji3]; first | rfl | (simp [errW_none, errW_some] <;> rfl)) | (simp [*, errW_none, errW_some] <;> rfl), by repeat (first | (with_reducible first | exact HB.out | apply Drew.drewN | apply Drew.drew) | exact HB.out)⟩
                · rw [if_neg c13] at H
                  have c13b0 : decide ((bt a1 x11_1) < (bt a0 x11_1)) = false := decide_eq_false c13
                  clear c13
                  have H' := Aside0.mk H
                  clear H
                  have p7 : 0 ≤ (x11_1 : Int) := of_decide_eq_true (by first | (with_reducible assumption) | assumption)
                  have q7 : x11_1 < (a0.size : Int) := of_decide_eq_true (by first | (with_reducible assumption) | assumption)
                  have hx7 := bt_at a0 x11_1
                  replace p7 := eq_true p7
                  replace q7 := eq_true q7
                  have p9 : 0 ≤ (x11_1 : Int) := of_decide_eq_true (by first | (with_reducible assumption) | assumption)
                  have q9 : x11_1 < (a1.size : Int) := of_decide_eq_true (by first | (with_reducible assumption) | assumption)
                  have hx9 := bt_at a1 x11_1
                  replace p9 := eq_true p9
                  replace q9 := eq_true q9
                  have p11 : 0 ≤ (x11_1 : Int) := of_decide_eq_true (by first | (with_reducible assumption) | assumption)
                  have q11 : x11_1 < (a0.size : Int) := of_decide_eq_true (by first | (with_reducible assumption) | assumption)
                  have hx11 := bt_at a0 x11_1
                  replace p11 := eq_true p11
                  replace q11 := eq_true q11
                  have p12 : 0 ≤ (x11_1 : Int) := of_decide_eq_true (by first | (with_reducible assumption) | assumption)
                  have q12 : x11_1 < (a1.size : Int) := of_decide_eq_true (by first | (with_reducible assumption) | assumption)
                  have hx12 := bt_at a1 x11_1
                  replace p12 := eq_true p12
                  replace q12 := eq_true q12
                  go_wp2
                  repeat (go_quiet (fail); try go_wp2)
                  go_roundg k1
                  case measure => have := HK1.out; omega
                  case rel => exact ⟨(wrap64 (x11_1 + 1)), (by first | rfl | (simp; done) | (simp [*]; done)), H', ⟨by have := HK1.out; omega⟩, ⟨by repeat (first | (with_reducible first | exact HB.out | apply Drew.drewN | apply Drew.drew) | exact HB.out)⟩⟩
            · rw [if_neg c8] at H
              exact absurd H (by simp)
          · rw [if_neg c6] at H
            exact absurd H (by simp)
        · rw [if_neg c5] at H
          exact absurd H (by simp)
      · rw [if_neg c4] at H
        have c4b0 : decide (x11_1 < ji3) = false := decide_eq_false c4
        clear c4
        by_cases c14 : (a0.size : Int) < (a1.size : Int)
        · rw [if_pos c14] at H
          have c14b0 : decide ((a0.size : Int) < (a1.size : Int)) = true := decide_eq_true c14
          have c14b1 : decide (a0.size < a1.size) = true := decide_eq_true (Int.ofNat_lt.mp c14)
          clear c14
          obtain rfl := Option.some.inj H
          go_wp2
          repeat (go_quiet (fail); try go_wp2)
          go_ret
          exact ⟨by first | rfl | (simp [errW_none, errW_some] <;> rfl) | (simp only [← hji3]; first | rfl | (simp [errW_none, errW_some] <;> rfl)) | (simp [*, errW_none, errW_some] <;> rfl), by repeat (first | (with_reducible first | exact HB.out | apply Drew.drewN | apply Drew.drew) | exact HB.out)⟩
        · rw [if_neg c14] at H
          have c14b0 : decide ((a0.size : Int) < (a1.size : Int)) = false := decide_eq_false c14
          have c14b1 : decide (a0.size < a1.size) = false := decide_eq_false (fun h => c14 (Int.ofNat_lt.mpr h))
          clear c14
          by_cases c15 : (a0.size : Int) > (a1.size : Int)
          · rw [if_pos c15] at H
            have c15b0 : decide ((a1.size : Int) < (a0.size : Int)) = true := decide_eq_true c15
            have c15b1 : decide (a1.size < a0.size) = true := decide_eq_true (Int.ofNat_lt.mp c15)
            clear c15
            obtain rfl := Option.some.inj H
            go_wp2
            repeat (go_quiet (fail); try go_wp2)
            go_ret
            exact ⟨by first | rfl | (simp [errW_none, errW_some] <;> rfl) | (simp only [← hji3]; first | rfl | (simp [errW_none, errW_some] <;> rfl)) | (simp [*, errW_none, errW_some] <;> rfl), by repeat (first | (with_reducible first | exact HB.out | apply Drew.drewN | apply Drew.drew) | exact HB.out)⟩
          · rw [if_neg c15] at H
            have c15b0 : decide ((a1.size : Int) < (a0.size : Int)) = false := decide_eq_false c15
            have c15b1 : decide (a1.size < a0.size) = false := decide_eq_false (fun h => c15 (Int.ofNat_lt.mpr h))
            clear c15
            obtain rfl := Option.some.inj H
            go_wp2
            repeat (go_quiet (fail); try go_wp2)
            go_ret
            exact ⟨by first | rfl | (simp [errW_none, errW_some] <;> rfl) | (simp only [← hji3]; first | rfl | (simp [errW_none, errW_some] <;> rfl)) | (simp [*, errW_none, errW_some] <;> rfl), by repeat (first | (with_reducible first | exact HB.out | apply Drew.drewN | apply Drew.drew) | exact HB.out)⟩

end Go.Proofs.Ytbjlfenappnccaa.P

end
section
/- nums.Compare is the order of bytes: -1, 0 or 1, for strings of any size that may come in. -/
namespace Go.Proofs.Ytbjlfenappnccaa.P
open Go.RowKit Go.Proofs.YtbjlfenappnccaaW.PrintWords Go.Proofs.YtbjlfenappnccaaW.PrintLast

/-- The order of two lists of bytes, as a number. -/
def cmpL (a b : List UInt8) : Int := if Op.bytesLess a b = true then -1 else if Op.bytesLess b a = true then 1 else 0
theorem u8lt (x y : UInt8) : x < y ↔ x.toNat < y.toNat := UInt8.lt_iff_toNat_lt
theorem cmpL_cons (x y : UInt8) (a b : List UInt8) : cmpL (x :: a) (y :: b) = if (x.toNat : Int) < y.toNat then -1 else if (x.toNat : Int) > y.toNat then 1 else cmpL a b := by
  unfold cmpL
  simp only [Op.bytesLess]
  rcases Nat.lt_trichotomy x.toNat y.toNat with h | h | h
  · have h1 : x < y := (u8lt x y).2 h
    rw [if_pos (show (x.toNat : Int) < y.toNat by omega)]
    simp [h1]
  · have h1 : x = y := UInt8.toNat_inj.1 h
    subst h1
    have h2 : ¬ x < x := fun h' => by have := (u8lt _ _).1 h'; omega
    rw [if_neg (by omega), if_neg (by omega)]
    simp [h2]
  · have h1 : y < x := (u8lt y x).2 h
    have h2 : ¬ x < y := fun h' => by have := (u8lt _ _).1 h'; omega
    have h3 : ¬ x = y := fun h' => by subst h'; omega
    rw [if_neg (by omega), if_pos (show (x.toNat : Int) > y.toNat by omega)]
    simp [h1, h2, h3]
theorem cmpL_nil_left (b : List UInt8) : cmpL [] b = if b.length = 0 then 0 else -1 := by
  cases b <;> simp [cmpL, Op.bytesLess]
theorem cmpL_nil_right (a : List UInt8) : cmpL a [] = if a.length = 0 then 0 else 1 := by
  cases a <;> simp [cmpL, Op.bytesLess]
theorem bt_get (s : ByteArray) (i : Nat) (h : i < s.size) : bt s i = (s.data.toList[i]'(by simpa using h)).toNat := by
  unfold bt
  rw [dif_pos (by simpa using h)]
  rfl
theorem drop_cons (s : ByteArray) (i : Nat) (h : i < s.size) : s.data.toList.drop i = (s.data.toList[i]'(by simpa using h)) :: s.data.toList.drop (i + 1) :=
  List.drop_eq_getElem_cons (by simpa using h)

theorem nums_Compare_loop (a b : ByteArray) (ha : a.size ≤ 9223372036854775806) (d : Nat) : ∀ (k i : Nat), i + d = min a.size b.size → d < k →
    nums_Compare.l0 k a b (mn (a.size : Int) (b.size : Int)) i = some (cmpL (a.data.toList.drop i) (b.data.toList.drop i)) := by
  have hm : mn (a.size : Int) (b.size : Int) = ((min a.size b.size : Nat) : Int) := by unfold mn; split <;> omega
  rw [hm]
  induction d with
  | zero =>
    intro k i hi hk
    obtain ⟨k, rfl⟩ : ∃ m, k = m + 1 := ⟨k - 1, by omega⟩
    simp only [nums_Compare.l0]
    rw [if_neg (by omega)]
    rcases Nat.lt_trichotomy a.size b.size with h | h | h
    · rw [if_pos (by omega)]
      rw [List.drop_of_length_le (l := a.data.toList) (by simp; omega), cmpL_nil_left, if_neg (by simp; omega)]
    · rw [if_neg (by omega), if_neg (by omega)]
      rw [List.drop_of_length_le (l := a.data.toList) (by simp; omega), cmpL_nil_left, if_pos (by simp; omega)]
    · rw [if_neg (by omega), if_pos (by omega)]
      rw [List.drop_of_length_le (l := b.data.toList) (by simp; omega), cmpL_nil_right, if_neg (by simp; omega)]
  | succ d ih =>
    intro k i hi hk
    obtain ⟨k, rfl⟩ : ∃ m, k = m + 1 := ⟨k - 1, by omega⟩
    have h1 : i < a.size := by omega
    have h2 : i < b.size := by omega
    simp only [nums_Compare.l0]
    rw [if_pos (by omega), if_pos (by omega), if_pos (by omega), if_pos (by omega), bt_get a i h1, bt_get b i h2, drop_cons a i h1, drop_cons b i h2, cmpL_cons]
    have hw : wrap64 ((i : Int) + 1) = ((i + 1 : Nat) : Int) := by unfold wrap64; omega
    rw [hw, ih k (i + 1) (by omega) (by omega)]
    repeat' split
    all_goals first | rfl | omega

theorem nums_Compare_eq (a b : ByteArray) (ha : a.size ≤ 9223372036854775806) (k : Nat) (hk : a.size < k) : nums_Compare.f k a b = some (cmpL a.toList b.toList) := by
  unfold nums_Compare.f
  have := nums_Compare_loop a b ha (min a.size b.size) k 0 (by omega) (by omega)
  rw [ByteArray.toList_eq, ByteArray.toList_eq]
  simpa using this
end Go.Proofs.Ytbjlfenappnccaa.P

end
section
/- The order of bytes is an order; a sorted list's search. -/
namespace Go.Proofs.Ytbjlfenappnccaa.P
open Go.RowKit Go.Proofs.YtbjlfenappnccaaW.PrintWords Go.Proofs.YtbjlfenappnccaaW.PrintLast
set_option linter.unusedVariables false

theorem bl_nil_left (b : List UInt8) : Op.bytesLess [] b = !b.isEmpty := by cases b <;> rfl
theorem bl_nil_right (a : List UInt8) : Op.bytesLess a [] = false := by cases a <;> rfl
theorem bl_cons (x y : UInt8) (a b : List UInt8) : Op.bytesLess (x :: a) (y :: b) = true ↔ x.toNat < y.toNat ∨ (x.toNat = y.toNat ∧ Op.bytesLess a b = true) := by
  simp only [Op.bytesLess]
  rcases Nat.lt_trichotomy x.toNat y.toNat with h | h | h
  · have h1 : x < y := (u8lt x y).2 h
    simp [h1, h]
  · have h1 : x = y := UInt8.toNat_inj.1 h
    subst h1
    have h2 : ¬ x < x := fun h' => by have := (u8lt _ _).1 h'; omega
    simp [h2]
  · have h2 : ¬ x < y := fun h' => by have := (u8lt _ _).1 h'; omega
    have h3 : ¬ x = y := fun h' => by subst h'; omega
    simp [h2, h3]
    omega
theorem bl_asymm : ∀ a b : List UInt8, Op.bytesLess a b = true → Op.bytesLess b a = false := by
  intro a
  induction a with
  | nil => intro b _; exact bl_nil_right b
  | cons x a ih =>
    intro b h
    cases b with
    | nil => rw [bl_nil_right] at h; cases h
    | cons y b =>
      rw [bl_cons] at h
      rw [Bool.eq_false_iff]
      intro h2
      rw [bl_cons] at h2
      rcases h with h | ⟨h, h'⟩ <;> rcases h2 with h3 | ⟨h3, h3'⟩
      · omega
      · omega
      · omega
      · rw [ih b h'] at h3'
        cases h3'
theorem bl_false_cons (x y : UInt8) (a b : List UInt8) : Op.bytesLess (x :: a) (y :: b) = false ↔ y.toNat < x.toNat ∨ (x.toNat = y.toNat ∧ Op.bytesLess a b = false) := by
  rw [← Bool.not_eq_true, bl_cons, ← Bool.not_eq_true]
  constructor
  · intro h
    by_cases h1 : x.toNat < y.toNat
    · exact absurd (.inl h1) h
    · by_cases h2 : x.toNat = y.toNat
      · exact .inr ⟨h2, fun h3 => h (.inr ⟨h2, h3⟩)⟩
      · left; omega
  · rintro (h | ⟨h1, h2⟩) (h3 | ⟨h3, h4⟩)
    · omega
    · omega
    · omega
    · exact h2 h4
theorem bl_trans : ∀ a b c : List UInt8, Op.bytesLess b a = false → Op.bytesLess c b = false → Op.bytesLess c a = false := by
  intro a
  induction a with
  | nil => intro b c _ _; exact bl_nil_right c
  | cons x a ih =>
    intro b c h1 h2
    cases b with
    | nil => rw [bl_nil_left] at h1; cases h1
    | cons y b =>
      cases c with
      | nil => rw [bl_nil_left] at h2; cases h2
      | cons z c =>
        rw [bl_false_cons] at h1 h2 ⊢
        rcases h1 with h1 | ⟨h1, h1'⟩ <;> rcases h2 with h2 | ⟨h2, h2'⟩
        · left; omega
        · left; omega
        · left; omega
        · exact .inr ⟨by omega, ih b c h1' h2'⟩
theorem cmpL_le (a b : List UInt8) : cmpL a b ≤ 0 ↔ Op.bytesLess b a = false := by
  unfold cmpL
  by_cases h : Op.bytesLess a b = true
  · rw [if_pos h]
    exact ⟨fun _ => bl_asymm a b h, fun _ => by decide⟩
  · rw [if_neg h]
    by_cases h2 : Op.bytesLess b a = true
    · rw [if_pos h2, h2]
      exact ⟨fun h => absurd h (by decide), fun h => by cases h⟩
    · rw [if_neg h2]
      exact ⟨fun _ => by simpa using h2, fun _ => by decide⟩
theorem cmpL_trans {a b c : List UInt8} (h1 : cmpL a b ≤ 0) (h2 : cmpL b c ≤ 0) : cmpL a c ≤ 0 := (cmpL_le a c).2 (bl_trans a b c ((cmpL_le a b).1 h1) ((cmpL_le b c).1 h2))
theorem cmpL_swap (a b : List UInt8) : cmpL a b < 0 ↔ ¬ cmpL b a ≤ 0 := by
  rw [cmpL_le]
  unfold cmpL
  by_cases h : Op.bytesLess a b = true
  · rw [if_pos h]
    exact ⟨fun _ e => (by rw [e] at h; cases h), fun _ => by decide⟩
  · rw [if_neg h]
    have h' : Op.bytesLess a b = false := by simpa using h
    by_cases h2 : Op.bytesLess b a = true
    · rw [if_pos h2]
      exact ⟨fun e => absurd e (by decide), fun e => absurd h' e⟩
    · rw [if_neg h2]
      exact ⟨fun e => absurd e (by decide), fun e => absurd h' e⟩
end Go.Proofs.Ytbjlfenappnccaa.P

end
section
/- parts.Bounds' closure (the lower of two keys), and keys' order as sort.Slice asks it. -/
namespace Go.Proofs.Ytbjlfenappnccaa.P
open Go.RowKit Go.Proofs.YtbjlfenappnccaaW.PrintWords Go.Proofs.YtbjlfenappnccaaW.PrintLast Go.Proofs.YtbjlfenappnccaaW.PrintMore
set_option linter.unusedVariables false
set_option linter.unusedSimpArgs false

/-- a key that may be in a sample -/
abbrev Key := {b : ByteArray // b.size ≤ 1024}
instance : Inhabited Key := ⟨⟨ByteArray.empty, by decide⟩⟩
def keyV (x : Key) : Value := .string x.1
def ltK (x y : Key) : Bool := Op.bytesLess x.1.toList y.1.toList
theorem ltK_cmp (x y : Key) : ltK x y = decide (cmpL x.1.toList y.1.toList < 0) := by
  unfold ltK cmpL
  by_cases h : Op.bytesLess x.1.toList y.1.toList = true
  · rw [if_pos h, h]; rfl
  · rw [if_neg h]
    have h' : Op.bytesLess x.1.toList y.1.toList = false := by simpa using h
    rw [h']
    split <;> rfl
theorem bl_irrefl (a : List UInt8) : Op.bytesLess a a = false := by
  by_cases h : Op.bytesLess a a = true
  · exact bl_asymm a a h
  · simpa using h
theorem bl_lt_trans (a b c : List UInt8) (h1 : Op.bytesLess a b = true) (h2 : Op.bytesLess b c = true) : Op.bytesLess a c = true := by
  by_cases h : Op.bytesLess a c = true
  · exact h
  · have h' : Op.bytesLess a c = false := by simpa using h
    have h3 := bl_asymm b c h2
    have := bl_trans b c a h3 h'
    rw [this] at h1
    cases h1
theorem bl_eq : ∀ a b : List UInt8, Op.bytesLess a b = false → Op.bytesLess b a = false → a = b := by
  intro a
  induction a with
  | nil =>
    intro b h1 _
    rw [bl_nil_left] at h1
    cases b with
    | nil => rfl
    | cons y b => simp at h1
  | cons x a ih =>
    intro b h1 h2
    cases b with
    | nil => rw [bl_nil_left] at h2; simp at h2
    | cons y b =>
      rw [bl_false_cons] at h1 h2
      have e : x.toNat = y.toNat := by rcases h1 with h1 | ⟨h1, _⟩ <;> rcases h2 with h2 | ⟨h2, _⟩ <;> omega
      have h3 : Op.bytesLess a b = false := by rcases h1 with h1 | ⟨_, h1⟩; omega; exact h1
      have h4 : Op.bytesLess b a = false := by rcases h2 with h2 | ⟨_, h2⟩; omega; exact h2
      rw [ih b h3 h4, UInt8.toNat_inj.1 e]
open Go.Sort in
theorem swo_ltK : SWO ltK where
  irrefl x := bl_irrefl _
  trans x y z h1 h2 := bl_lt_trans _ _ _ h1 h2
  ntrans x y z h1 h2 := bl_trans _ _ _ h2 h1
theorem ltK_anti (x y : Key) (h1 : ltK x y = false) (h2 : ltK y x = false) : x = y := by
  have h := bl_eq _ _ h1 h2
  rw [ByteArray.toList_eq, ByteArray.toList_eq] at h
  apply Subtype.ext
  have : x.1.data = y.1.data := by
    apply Array.toList_inj.1
    exact h
  cases hx : x.1
  cases hy : y.1
  rw [hx, hy] at this
  simp only at this
  rw [this]

set_option maxHeartbeats 4000000 in
theorem less_strs (blk off c Bs size : Nat) (W : World) (G : Nat → Key) (hs : W.cell? ⟨Bs, 0, none⟩ = some (.slice (some ⟨blk, off, none⟩) size c))
    (hc : ∀ t, t < size → W.cell? ⟨blk, off + t, none⟩ = some (keyV (G t))) (i j : Nat) (hi : i < size) (hj : j < size) :
    Calls Try.prog 30 #[.int .i64 i, .int .i64 j, .pointer (some ⟨Bs, 0, none⟩)] W fun e w' => e = .returned (.bool (ltK (G i) (G j))) ∧ ∃ q, w' = W.drewN q := by
  have ci : W.cell? ⟨blk, off + i, none⟩ = some (.string (G i).1) := hc i hi
  have cj : W.cell? ⟨blk, off + j, none⟩ = some (.string (G j).1) := hc j hj
  have HR := Aside0.mk (ltK_cmp (G i) (G j))
  have HZ := Aside0.mk (fun (V : World) => nums_Compare.drew ((G i).1.size + 1) (G i).1 (G j).1 _ V (nums_Compare_eq (G i).1 (G j).1 (Nat.le_trans (G i).2 (by decide)) _ (Nat.lt_succ_self _)))
  clear hc
  generalize G i = x at *
  generalize G j = y at *
  generalize cmpL x.1.toList y.1.toList = cv at HR HZ
  go_enter Try.func30, Try.ntmps30
  go_wp2
  go_quiet (first | (go_at_call 19; exact Calls.quiet_of (HZ.out _)))
  go_wp2
  go_ret
  exact ⟨by rw [HR.out]; first | rfl | (simp; done), nq, rfl⟩
end Go.Proofs.Ytbjlfenappnccaa.P

end
section
/- sort.Slice at the keys of a sample, by the shelf's contract: the row ends sorted. -/
namespace Go.Proofs
open Go.Shelf
shelf_lay LaysGg.n6 Ggs 6 at Try as Try.sl6
end Go.Proofs

namespace Go.Proofs.Ytbjlfenappnccaa.P
open Go.Shelf Go.RowKit Go.Lib Go.Sort Go.Proofs.YtbjlfenappnccaaW.PrintWords Go.Proofs.YtbjlfenappnccaaW.PrintLast Go.Proofs.YtbjlfenappnccaaW.PrintMore
set_option linter.unusedVariables false
set_option linter.unusedSimpArgs false

/-- the keys in order -/
def leB (x y : ByteArray) : Bool := !Op.bytesLess y.toList x.toList
def sortB (l : List ByteArray) : List ByteArray := l.mergeSort leB
theorem sortB_length (l : List ByteArray) : (sortB l).length = l.length := List.length_mergeSort l
theorem sortB_perm (l : List ByteArray) : (sortB l).Perm l := List.mergeSort_perm _ _

noncomputable def siT : TypeInfo := (Try.prog.info? 24).get (by kernel_rfl)
noncomputable def siE : TypeInfo := (Try.prog.info? 9).get (by kernel_rfl)
theorem siK (n : Nat) (h2 : 2 ≤ n) : Lib.swapperK n siE 24 = 4 := by
  have a : siE.hasPointers = true := by kernel_rfl
  have b : siE.bytes = 16 := by kernel_rfl
  have c : (n == 0) = false := by simp; omega
  have d : (n == 1) = false := by simp; omega
  simp [Lib.swapperK, a, b, c, d]

/-- the keys of a list, each within its bound -/
def keysOf (l : List ByteArray) (h : ∀ b ∈ l, b.size ≤ 1024) : List Key := l.pmap (fun b hb => ⟨b, hb⟩) h
theorem keysOf_map (l : List ByteArray) (h : ∀ b ∈ l, b.size ≤ 1024) : (keysOf l h).map (fun x => x.1) = l := by
  unfold keysOf
  rw [List.map_pmap]
  simp
theorem keysOf_length (l : List ByteArray) (h : ∀ b ∈ l, b.size ≤ 1024) : (keysOf l h).length = l.length := by simp [keysOf]
theorem sortK_map (ks : List Key) : (ks.mergeSort fun x y => !ltK y x).map (fun x => x.1) = sortB (ks.map fun x => x.1) := by
  unfold sortB
  exact List.map_mergeSort (fun a _ b _ => rfl)

/-- the world that is left holds the row in its new order -/
theorem R_sorted {w : World} {base g n c q : Nat} {l L : List ByteArray} {os : Array Obj} (h : Kd.R Kd.string 9 w base (fun _ => True) (.slice (some ⟨g, 0, none⟩) n c) l) (hL : L.length = l.length) :
    Kd.R Kd.string 9 (grow ((w.drewN q).setCells g 0 (L.map Value.string)) os) base (fun _ => True) (.slice (some ⟨g, 0, none⟩) n c) L := by
  have ho := Kd.own_of_R h
  obtain ⟨hlen, hr⟩ := ho
  rcases hr with ⟨hr, _⟩ | ⟨g', cap, cur, hv, hb, hh, hn, hcap, hcs, htake⟩
  · cases hr
  injection hv with h1 h2 h3
  injection h1 with h1
  injection h1 with h1 _
  subst h1; subst h2; subst h3
  obtain ⟨cur', hc1, hc2, hc3⟩ := setCells_row (L.map Value.string) 0 (w.drewN q) cur hh (by simp; omega)
  refine Kd.R_of_own ⟨by simp [encs], .inr ⟨g, c, cur', by rw [hL], hb, ?_, by omega, hcap, by rw [hc2, hcs], ?_⟩⟩ (fun _ _ => trivial)
  · rw [heap_grow_old _ _ (blk_lt hc1)]
    exact hc1
  · rw [hc3]
    simp [encs]

set_option maxHeartbeats 4000000 in
theorem sort_two (w : World) (base g n c Bs : Nat) (l : List ByteArray) (hx : ∀ b ∈ l, b.size ≤ 1024) (hR : Kd.R Kd.string 9 w base (fun _ => True) (.slice (some ⟨g, 0, none⟩) n c) l) (h2 : 2 ≤ n) (hl : n ≤ 65536)
    (hs : w.cell? ⟨Bs, 0, none⟩ = some (.slice (some ⟨g, 0, none⟩) n c)) (hne : Bs ≠ g) (hB : Bs < w.heap.size) :
    Calls Try.prog 29 #[.iface 24 (.slice (some ⟨g, 0, none⟩) n c), .func (.func 30) #[] #[.pointer (some ⟨Bs, 0, none⟩)]] w fun e w' =>
      e = .returned (.tuple #[]) ∧ ∃ q os, w' = grow ((w.drewN q).setCells g 0 ((sortB l).map Value.string)) os := by
  have hn : n = l.length := (Kd.R_reads' hR).1
  obtain ⟨d, hd⟩ : ∃ d : Array Key, d = (keysOf l hx).toArray := ⟨_, rfl⟩
  have hdn : d.size = n := by rw [hd]; simp [keysOf_length, hn]
  have hdm : d.toList.map (fun x => x.1) = l := by rw [hd]; exact keysOf_map l hx
  have hH : Holds keyV w g 0 d := by
    intro j hj
    have hc := Kd.R_celln ByteArray.empty hR (j : Int) (by omega) (by omega)
    rw [Int.toNat_natCast] at hc
    have e : rdOf ByteArray.empty l (j : Int) = (d[j]!).1 := by
      unfold rdOf
      rw [Int.toNat_natCast, ← hdm, getElem!_pos d j hj, List.getD_eq_getElem?_getD, List.getElem?_map, List.getElem?_eq_getElem (by simpa using hj)]
      rfl
    rw [e] at hc
    rw [Nat.zero_add]
    exact hc
  have hb : g < w.heap.size := by
    obtain ⟨cells, hb⟩ := Kd.R_typed hR g rfl
    exact blk_lt hb
  have hless : LessReads Try.prog 30 #[.pointer (some ⟨Bs, 0, none⟩)] keyV ltK g 0 d.size w := by
    intro m os dk hsz i j hi hj
    have e : sortWorld keyV w g 0 m dk os = putRow keyV (grow (Sort.ahead w m) os) g 0 dk := by
      unfold sortWorld; rw [putRow_grow _ (Sort.ahead w m) _ g 0 _ hb]
    have hHg : Holds keyV (grow (Sort.ahead w m) os) g 0 d := holds_grow _ _ _ g 0 d hb (holds_ahead _ _ _ _ _ _ hH)
    refine less_strs g 0 c Bs d.size _ (fun t => dk[t]!) ?_ (fun t ht => ?_) i j hi hj
    · rw [e, cell?_putRow_other _ _ g 0 dk _ (Or.inl hne), cell?_grow _ _ _ (by show Bs < w.heap.size; exact hB), hdn]
      exact hs
    · rw [e]; exact cell?_putRow _ _ g 0 d dk hHg hsz t (by omega)
  have hS := Any.sort_Slice_sorted Try.sl6 24 9 siT siE (by kernel_rfl) (by kernel_rfl) (by kernel_rfl) (by kernel_rfl) 24 (fun _ => by kernel_rfl) (by kernel_rfl) (fun _ => by kernel_rfl) keyV (fun _ => rfl) ltK swo_ltK 30 _
    (enters_of Try.func30 (by kernel_rfl) rfl) g 0 c d (by omega) (by omega) 48 (by rw [siK _ (by omega)]; kernel_rfl) true
    (fun args W => run_callFunc_extern Try.func48 (by kernel_rfl) (by kernel_rfl) (by kernel_rfl) (e := Extern.ReflectliteSwapper.swap true) (by kernel_rfl) args W) _ hless hH hb
  rw [hdn] at hS
  change Calls Try.prog 29 _ _ _ at hS
  refine hS.mono ?_
  rintro e w' ⟨rfl, d', m, os, hp, hso, rfl⟩
  refine ⟨rfl, m, os, ?_⟩
  rw [← hdn] at hp hso
  have hu := sorted_unique_holds swo_ltK (fun x y h1 h2 => ltK_anti x y h1 h2) d d' hp hso
  have hu2 : d' = (d.toList.mergeSort fun x y => !ltK y x).toArray := by
    apply Array.toList_inj.1
    rw [hu]
  rw [hu2, sorted_world keyV w g 0 m d (d.toList.mergeSort fun x y => !ltK y x) os hH (by simp)]
  have e2 : (d.toList.mergeSort fun x y => !ltK y x).map keyV = (sortB l).map Value.string := by
    rw [← hdm, ← sortK_map, List.map_map]
    rfl
  rw [e2]

theorem sort_tiny (w : World) (A : Option Addr) (n c : Nat) (h1 : n ≤ 1) (lb : Array Value) :
    Calls Try.prog 29 #[.iface 24 (.slice A n c), .func (.func 30) #[] lb] w fun e w' => e = .returned (.tuple #[]) ∧ ∃ os, w' = grow w os := by
  have hK : Lib.swapperK n siE 24 = n + 1 := by
    rcases Nat.eq_zero_or_pos n with h | h
    · subst h; simp [Lib.swapperK]
    · obtain rfl : n = 1 := by omega
      simp [Lib.swapperK]
  have hS := Any.sort_Slice_tiny Try.sl6 24 9 siT siE (by kernel_rfl) (by kernel_rfl) (by kernel_rfl) (by kernel_rfl) 24 (fun _ => by kernel_rfl) A n c h1 (45 + n) (by
    rw [hK]
    rcases Nat.eq_zero_or_pos n with h | h
    · subst h; kernel_rfl
    · obtain rfl : n = 1 := by omega
      kernel_rfl) (.func 30) #[] lb w
  change Calls Try.prog 29 _ _ _ at hS
  exact hS

/-- sort.Slice at a sample's keys: whatever their number. -/
theorem sort_keys (w : World) (base n c Bs : Nat) (A : Option Addr) (l : List ByteArray) (hx : ∀ b ∈ l, b.size ≤ 1024) (hR : Kd.R Kd.string 9 w base (fun _ => True) (.slice A n c) l) (hl : n ≤ 65536)
    (hs : w.heap[Bs]? = some (.cells #[.slice A n c] 24 (0, 0))) :
    Calls Try.prog 29 #[.iface 24 (.slice A n c), .func (.func 30) #[] #[.pointer (some ⟨Bs, 0, none⟩)]] w fun e w' =>
      e = .returned (.tuple #[]) ∧ Kd.R Kd.string 9 w' base (fun _ => True) (.slice A n c) (sortB l) ∧ w'.heap[Bs]? = some (.cells #[.slice A n c] 24 (0, 0)) ∧
        (∀ w0 : World, Below base w0 w → base ≤ w.heap.size → Below base w0 w') ∧ w.heap.size ≤ w'.heap.size := by
  have hn : n = l.length := (Kd.R_reads' hR).1
  have hB : Bs < w.heap.size := blk_lt hs
  by_cases h2 : 2 ≤ n
  · obtain ⟨g, cap, hv, hbase, hg, cells, hcl⟩ := Kd.R_form hR (by omega)
    injection hv with hv1 hv2 hv3
    subst hv1
    have hne : Bs ≠ g := by
      rintro rfl
      rw [hcl] at hs
      injection hs with hs
      injection hs with _ hs
      cases hs
    refine (sort_two w base g n c Bs l hx hR h2 hl ((blk_cell hs 0).trans rfl) hne hB).mono ?_
    rintro e w' ⟨rfl, q, os, rfl⟩
    obtain ⟨f1, f2, f3, f4⟩ := setCells_same g ((sortB l).map Value.string) 0 (w.drewN q)
    have f4' : ((w.drewN q).setCells g 0 ((sortB l).map Value.string)).heap.size = w.heap.size := f4
    refine ⟨rfl, R_sorted hR (sortB_length l), ?_, ?_, ?_⟩
    · rw [heap_grow_old _ _ (by rw [f4']; exact hB), setCells_far _ _ _ hne]
      exact hs
    · intro w0 hb hbs
      refine ⟨f1.trans hb.os, ?_, ?_, ?_, ?_⟩
      · exact f2.trans hb.tape
      · exact f3.trans hb.output
      · have := hb.size; rw [size_grow, f4']; omega
      · intro k hk
        rw [heap_grow_old _ _ (by rw [f4']; omega), setCells_far _ _ _ (by omega)]
        exact hb.block k hk
    · rw [size_grow, f4']; omega
  · refine (sort_tiny w A n c (by omega) _).mono ?_
    rintro e w' ⟨rfl, os, rfl⟩
    have hm : sortB l = l := by
      unfold sortB
      match l, hn with
      | [], _ => simp
      | [x], _ => simp
      | x :: y :: r, hn => simp at hn; omega
    have hbl : Below w.heap.size w (grow w os) := ⟨rfl, rfl, rfl, by rw [size_grow]; omega, fun k hk => heap_grow_old w os hk⟩
    refine ⟨rfl, ?_, ?_, ?_, ?_⟩
    · rw [hm]
      exact Kd.R_below hR hbl
    · rw [heap_grow_old w os hB]; exact hs
    · intro w0 hb hbs
      exact ⟨hb.os, hb.tape, hb.output, by have := hb.size; rw [size_grow]; omega, fun k hk => (heap_grow_old w os (by omega)).trans (hb.block k hk)⟩
    · rw [size_grow]; omega
end Go.Proofs.Ytbjlfenappnccaa.P

end
