/- Several texts laid together (wip/tools/merge2.py): Open, Str, P0, Opens, Pf32, Pf36, Pf61, Pf63, Pf34, HTab, HEnv, HNote, LedPlain, HCheck, HDo, HChanged, HKnown. -/
import Derived.Test.YtponmfnegdlppaaDoorVS1
import Derived.Test.YtponmfnegdlppaaDoorRows
import Derived.Deep.Slices
import Derived.SizedLaws
import Derived.ProofKit
import Derived.Laws.Strings
import Derived.Laws.Small
import Derived.Test.YtponmfnegdlppaaDoorProg
import Derived.Below
import Derived.Deep.Draws
import Derived.Deep.AppendLies
import Derived.Maps.AppendAt
import Derived.OwnWalk
import Derived.Laws.BytesArg
import Derived.Laws.MakeOwn
import Derived.Laws.OwnMore
import Derived.Deep.OwnRows
import Derived.Tactics
import Derived.Lib.ConvBytes
import Derived.Laws.Slices
import Derived.WalkKit
import Derived.KernelRfl
import Derived.RowKit3
import Derived.Deep.LoopGhost
import Derived.Deep.QuietTactic
import Derived.BigQuiet
import Derived.WideLaws
import Derived.Deep.DeepCutAuto
import Derived.Deep.CutBlock
import Derived.Deep.RegionHeld3
import Derived.Laws.Rows
import Derived.Lib.AppendStr
import Derived.ArgAppend
import Derived.Laws.IdiomCopy
import Derived.OrdersHeld
import Derived.Laws.BitsLemmas
import Derived.RowKit
import Derived.Lib.LaidTab
import Derived.Outline
import Derived.Shelf.Abstract
import Derived.Deep.DeepMust
section
/- What comes in as data is read as a Lean value of its kind, whatever the kind: numbers, bools, strings, structs, slices of these. -/
set_option linter.unusedVariables false
namespace Go.Proofs.YtponmfnegdlppaaDoor.OpenWords
open Go.Deep Go.ChangeShapes Go.WideShapes Go.Proofs.YtponmfnegdlppaaDoorW.PrintWords

/-- What a value of type t reads as: 'ok' is what is known of it, 'bk' what it weighs at least. -/
structure Opens (P : Program) (t : TypeId) {α : Type} (d : Kd α) (ok : α → Prop) (bk : α → Nat) : Prop where
  sz : P.cellsOf t = d.sz
  get : ∀ {H : Type} (enc : TypeId × Value → H) (w : World) (held : Bool) (fuel : Nat) (cs : List Value) (x : DataW H × List MemPlace),
    DataW.trod enc P w 0 (fun _ => true) held fuel t cs = some x → (∀ n ∈ x.1.weights P t, n ≤ reachBytes) →
    ∃ a : α, d.K w a cs ∧ ok a ∧ bk a ≤ Rows.uptoBulk x.1

theorem opens_int {P : Program} {t : TypeId} {k : IntKind} (h : P.underlying t = some (.int k)) (hs : P.cellsOf t = 1) :
    Opens P t (Kd.int k) (fun a => (Lit.int k a).wf = true) (fun _ => 1) where
  sz := hs
  get := by
    intro H enc w held fuel cs x hx _
    obtain ⟨n, rfl, rfl, hw⟩ := DataW.trod_int h hx
    exact ⟨n, rfl, hw, Nat.le_refl _⟩

theorem opens_bool {P : Program} {t : TypeId} (h : P.underlying t = some .bool) (hs : P.cellsOf t = 1) :
    Opens P t Kd.bool (fun _ => True) (fun _ => 1) where
  sz := hs
  get := by
    intro H enc w held fuel cs x hx _
    obtain ⟨n, rfl, rfl⟩ := DataW.trod_bool h hx
    exact ⟨n, rfl, trivial, Nat.le_refl _⟩

theorem opens_string {P : Program} {t : TypeId} (h : P.underlying t = some .string) (hs : P.cellsOf t = 1) :
    Opens P t Kd.string (fun a => a.size ≤ 140737488351232) (fun a => a.size + 1) where
  sz := hs
  get := by
    intro H enc w held fuel cs x hx hw
    obtain ⟨s, rfl, rfl, hl⟩ := DataW.trod_string h hx
    refine ⟨s, rfl, ?_, ?_⟩
    · have := hw s.data.toList.length (by simp [DataW.weights])
      simpa [reachBytes] using this
    · show s.size + 1 ≤ s.data.toList.length + 1
      rw [Array.length_toList]
      exact Nat.le_refl _

/-- Some fields of a struct, from cell 'off' on. -/
structure OpensF (P : Program) (fs : List Field) (off : Nat) {α : Type} (d : Kd α) (ok : α → Prop) (bk : α → Nat) : Prop where
  get : ∀ {H : Type} (enc : TypeId × Value → H) (w : World) (held : Bool) (fuel : Nat) (cs : List Value) (xs : List (DataW H × List MemPlace)),
    cs.length = off + d.sz →
    (fs.mapM fun f => DataW.trod enc P w 0 (fun _ => true) held fuel f.type ((cs.drop f.offset).take (P.cellsOf f.type))) = some xs →
    (∀ n ∈ DataW.weightsEach P (fs.map (·.type)) (xs.map (·.1)), n ≤ reachBytes) →
    ∃ a : α, d.K w a (cs.drop off) ∧ ok a ∧ bk a ≤ Rows.uptoBulkAll (xs.map (·.1))

theorem opensF_one {P : Program} {f : Field} {α : Type} {d : Kd α} {ok : α → Prop} {bk : α → Nat} (h : Opens P f.type d ok bk) : OpensF P [f] f.offset d ok bk where
  get := by
    intro H enc w held fuel cs xs hl hx hw
    rw [List.mapM_cons] at hx
    cases h1 : DataW.trod enc P w 0 (fun _ => true) held fuel f.type ((cs.drop f.offset).take (P.cellsOf f.type)) with
    | none => rw [h1] at hx; simp at hx
    | some x =>
      rw [h1] at hx
      have hx' : some [x] = some xs := hx
      obtain rfl := Option.some.inj hx'
      rw [List.take_of_length_le (by rw [List.length_drop, h.sz]; omega)] at h1
      obtain ⟨a, hK, ho, hb⟩ := h.get enc w held fuel _ x h1 (fun n hn => hw n (by simpa [DataW.weightsEach] using hn))
      exact ⟨a, hK, ho, by simpa [Rows.uptoBulkAll] using hb⟩

theorem opensF_cons {P : Program} {f : Field} {fs : List Field} {off : Nat} {α β : Type} {d : Kd α} {ok : α → Prop} {bk : α → Nat} {d' : Kd β} {ok' : β → Prop} {bk' : β → Nat}
    (h : Opens P f.type d ok bk) (ho : off = f.offset + d.sz) (h' : OpensF P fs off d' ok' bk') :
    OpensF P (f :: fs) f.offset (Kd.pair d d') (fun a => ok a.1 ∧ ok' a.2) (fun a => bk a.1 + bk' a.2) where
  get := by
    intro H enc w held fuel cs xs hl hx hw
    have hl' : cs.length = f.offset + (d.sz + d'.sz) := hl
    rw [List.mapM_cons] at hx
    cases h1 : DataW.trod enc P w 0 (fun _ => true) held fuel f.type ((cs.drop f.offset).take (P.cellsOf f.type)) with
    | none => rw [h1] at hx; simp at hx
    | some x =>
      rw [h1] at hx
      cases h2 : fs.mapM fun f => DataW.trod enc P w 0 (fun _ => true) held fuel f.type ((cs.drop f.offset).take (P.cellsOf f.type)) with
      | none => rw [h2] at hx; simp at hx
      | some ys =>
        rw [h2] at hx
        have hx' : some (x :: ys) = some xs := hx
        obtain rfl := Option.some.inj hx'
        obtain ⟨a, hK, hok, hb⟩ := h.get enc w held fuel _ x h1 (fun n hn => hw n (by simp only [List.map_cons, DataW.weightsEach, List.mem_append]; exact .inl hn))
        obtain ⟨a', hK', hok', hb'⟩ := h'.get enc w held fuel cs ys (by rw [hl', ho]; omega) h2 (fun n hn => hw n (by simp only [List.map_cons, DataW.weightsEach, List.mem_append]; exact .inr hn))
        refine ⟨(a, a'), ⟨_, _, ?_, hK, hK'⟩, ⟨hok, hok'⟩, ?_⟩
        · rw [h.sz, ho, ← List.drop_drop]
          exact (List.take_append_drop _ _).symm
        · simp only [List.map_cons, Rows.uptoBulkAll]
          omega

theorem opens_struct {P : Program} {t : TypeId} {fs : Array Field} {α β : Type} {d : Kd α} {ok : α → Prop} {bk : α → Nat} (g : β → α) (m : α → β) (hg : ∀ a, g (m a) = a)
    (hu : P.underlying t = some (.struct fs)) (hs : P.cellsOf t = d.sz) (h : OpensF P fs.toList 0 d ok bk) :
    Opens P t (Kd.iso d g) (fun b => ok (g b)) (fun b => bk (g b) + 1) where
  sz := hs
  get := by
    intro H enc w held fuel cs x hx hw
    cases fuel with
    | zero => simp [DataW.trod] at hx
    | succ fuel =>
      unfold DataW.trod at hx
      rw [hu] at hx
      simp only at hx
      split at hx
      · rename_i hl
        obtain ⟨xs, hxs, rfl⟩ := Option.map_eq_some_iff.1 hx
        obtain ⟨a, hK, hok, hb⟩ := h.get enc w held fuel cs xs (by rw [hl, hs, Nat.zero_add]) hxs (fun n hn => hw n (by
          simp only [DataW.weights, hu]
          exact hn))
        refine ⟨m a, ?_, ?_, ?_⟩
        · show d.K w (g (m a)) cs
          rw [hg]
          simpa using hK
        · show ok (g (m a))
          rw [hg]; exact hok
        · show bk (g (m a)) + 1 ≤ _
          rw [hg]
          simp only [Rows.uptoBulk]
          omega
      · simp at hx

theorem bulkAll_sum {H : Type} (l : List (DataW H)) : Rows.uptoBulkAll l = (l.map Rows.uptoBulk).sum := by
  induction l with
  | nil => rfl
  | cons x l ih => simp [Rows.uptoBulkAll, ih]

theorem weightsAll_mem {H : Type} {P : Program} {e : TypeId} {l : List (DataW H)} {d : DataW H} (hd : d ∈ l) {n : Nat} (hn : n ∈ d.weights P e) : n ∈ DataW.weightsAll P e l := by
  induction l with
  | nil => cases hd
  | cons y l ih =>
    simp only [DataW.weightsAll, List.mem_append]
    rcases List.mem_cons.1 hd with rfl | hd
    · exact .inl hn
    · exact .inr (ih hd)

theorem map_sum_le {α : Type} {f g : α → Nat} (l : List α) (h : ∀ a ∈ l, f a ≤ g a) : (l.map f).sum ≤ (l.map g).sum := by
  induction l with
  | nil => exact Nat.le_refl _
  | cons x l ih =>
    have h1 := h x (by simp)
    have h2 := ih (fun a ha => h a (by simp [ha]))
    simp only [List.map_cons, List.sum_cons]
    omega

theorem cells_len {w : World} {base : Nat} {a : Addr} {n : Nat} {cs : List Value} (h : w.cells? base a n = some cs) : cs.length = n ∧ ∀ i u, cs[i]? = some u → w.cell? (a.add i) = some u := by
  obtain ⟨_, h1, h2⟩ := World.cells?_some h
  refine ⟨h1, fun i u hu => ?_⟩
  obtain ⟨hi, rfl⟩ := List.getElem?_eq_some_iff.1 hu
  have := h2 i (by omega)
  rw [this]
  simp [List.getElem?_eq_getElem hi]

theorem opens_slice {P : Program} {t e : TypeId} {α : Type} [Inhabited α] {d : Kd α} {ok : α → Prop} {bk : α → Nat} (B : Nat)
    (hu : P.underlying t = some (.slice e)) (hs : P.cellsOf t = 1) (hB : P.bytesOf e = B) (h : Opens P e d ok bk) :
    Opens P t (Kd.slice e d) (fun l => l.length ≤ maxLen ∧ l.length * B ≤ 140737488351232 ∧ ∀ x ∈ l, ok x) (fun l => (l.map bk).sum + 1) where
  sz := hs
  get := by
    intro H enc w held fuel cs x hx hw
    rcases open_slice hu hx with ⟨rfl, rfl⟩ | ⟨a, len, cap, m, n, D, Pl, rfl, _, hl, hm, hmm, rfl, hel⟩
    · exact ⟨[], ⟨none, 0, rfl, Nat.le_refl _, rfl, by simp, by simp⟩, ⟨by simp, by simp, by simp⟩, by simp [Rows.uptoBulk]⟩
    · have hmc : m = cap := by simpa using hmm
      subst hmc
      have hw1 : (((List.range len).map D).length + ((List.range (m - len)).map fun j => D (len + j)).length) * P.bytesOf e ≤ reachBytes := hw _ (by simp [DataW.weights, hu])
      have hw2 : ∀ i, i < len → ∀ k ∈ (D i).weights P e, k ≤ reachBytes := fun i hi k hk => hw k (by
        simp only [DataW.weights, hu, List.mem_cons, List.mem_append]
        exact .inr (.inl (weightsAll_mem (List.mem_map.2 ⟨i, List.mem_range.2 hi, rfl⟩) hk)))
      have each : ∀ i, i < len → ∃ y : α, (∃ cs', w.cells? 0 (a.add (i * P.cellsOf e)) (P.cellsOf e) = some cs' ∧ d.K w y cs') ∧ ok y ∧ bk y ≤ Rows.uptoBulk (D i) := by
        intro i hi
        obtain ⟨cs', hc, ht⟩ := hel i (by omega)
        obtain ⟨y, hK, ho, hb⟩ := h.get enc w held n cs' _ ht (hw2 i hi)
        exact ⟨y, ⟨cs', hc, hK⟩, ho, hb⟩
      obtain ⟨f, hf⟩ := choose_lt each
      refine ⟨(List.range len).map f, ⟨some a, m, by simp, by simpa using hl, ?_⟩, ⟨?_, ?_, ?_⟩, ?_⟩
      · refine ⟨rfl, ?_, fun hn => ⟨a, rfl, fun j p hj => ?_⟩⟩
        · simp only [List.length_map, List.length_range]
          unfold maxLen at hm
          omega
        · obtain ⟨hjl, hp⟩ := List.getElem?_eq_some_iff.1 hj
          simp at hjl
          have hp' : f j = p := by simpa using hp
          obtain ⟨⟨cs', hc, hK⟩, _⟩ := hf j hjl
          obtain ⟨hcl, hcc⟩ := cells_len hc
          refine ⟨cs', by rw [hcl, h.sz], hp' ▸ hK, fun i u hu' => ?_⟩
          have := hcc i u hu'
          rw [Go.Deep.add_add, h.sz] at this
          exact this
      · simp; omega
      · simp only [List.length_map, List.length_range] at hw1 ⊢
        rw [hB] at hw1
        have : len * B ≤ (len + (m - len)) * B := Nat.mul_le_mul_right _ (by omega)
        unfold reachBytes at hw1
        omega
      · intro x hx
        obtain ⟨i, hi, rfl⟩ := List.mem_map.1 hx
        exact (hf i (List.mem_range.1 hi)).2.1
      · simp only [Rows.uptoBulk, bulkAll_sum, List.map_map]
        have := map_sum_le (f := bk ∘ f) (g := Rows.uptoBulk ∘ D) (List.range len) (fun i hi => (hf i (List.mem_range.1 hi)).2.2)
        omega

/-- An argument of a kind of one cell, or a struct: its value, and what is known of it. -/
theorem Opens.arg {P : Program} {t : TypeId} {α : Type} {d : Kd α} {ok : α → Prop} {bk : α → Nat} (h : Opens P t d ok bk) {H : Type} {enc : TypeId × Value → H} {W : World} {held : Bool} {v : Value} {x : DataW H} {ps : List MemPlace}
    (ht : DataW.Trod enc P W 0 (fun _ => true) held t v x ps) (hw : ∀ n ∈ x.weights P t, n ≤ reachBytes) : ∃ a : α, d.K W a v.cells.toList ∧ ok a ∧ bk a ≤ Rows.uptoBulk x := by
  obtain ⟨fuel, hf⟩ := ht
  exact h.get enc W held fuel _ (x, ps) hf hw
theorem each_of {H : Type} {P : Program} {ts : List TypeId} {ds : List (DataW H)} (h : (DataW.weightsEach P ts ds).all (· ≤ reachBytes) = true) {j : Nat} {t : TypeId} {d : DataW H} (ht : ts[j]? = some t) (hd : ds[j]? = some d) : ∀ n ∈ d.weights P t, n ≤ reachBytes :=
  fun n hn => by simpa using List.all_eq_true.1 h n (DataW.weights_mem_each ht hd n hn)

theorem int_of_K {k k' : IntKind} {w : World} {n x : Int} (h : (Kd.int k).K w x (Value.int k' n).cells.toList) : n = x := by
  have h' : [Value.int k' n] = [Value.int k x] := h
  simpa using (List.cons.inj h').1 |> fun e => (Value.int.inj e).2
theorem string_of_K {w : World} {s x : ByteArray} (h : Kd.string.K w x (Value.string s).cells.toList) : s = x := by
  have h' : [Value.string s] = [Value.string x] := h
  exact Value.string.inj (List.cons.inj h').1
theorem bool_of_K {w : World} {v : Value} {x : Bool} (hv : ∃ b, v = .bool b) (h : Kd.bool.K w x v.cells.toList) : v = .bool x := by
  obtain ⟨b, rfl⟩ := hv
  have h' : [Value.bool b] = [Value.bool x] := h
  exact (List.cons.inj h').1
theorem slice_of_K {α : Type} {e : Nat} {d : Kd α} {w : World} {a : Option Addr} {len cap : Nat} {xs : List α} (h : (Kd.slice e d).K w xs (Value.slice a len cap).cells.toList) : len = xs.length ∧ xs.length ≤ cap ∧ Kd.C d w a xs.length xs := by
  obtain ⟨A, c, he, hl, hr⟩ := h
  have h' : [Value.slice a len cap] = [Value.slice A xs.length c] := he
  obtain ⟨rfl, rfl, rfl⟩ := Value.slice.inj (List.cons.inj h').1
  exact ⟨rfl, hl, hr⟩
theorem agg_of_K {cs : Array Value} {l : List Value} (h : (Value.agg cs).cells.toList = l) : cs = l.toArray := by
  have h' : cs.toList = l := h
  rw [← h']
end Go.Proofs.YtponmfnegdlppaaDoor.OpenWords

end
section
/- The comparisons of strings as the printed functions spell them: each by 'is one less than the other'. -/
set_option linter.unusedVariables false
set_option linter.unusedSimpArgs false
namespace Go.Proofs.YtponmfnegdlppaaDoor.StrWords
theorem bytesLess_tri : ∀ a b : List UInt8, (!(Op.bytesLess a b || a == b)) = Op.bytesLess b a
  | [], [] => by decide
  | [], _ :: _ => by simp [Op.bytesLess]
  | _ :: _, [] => by simp [Op.bytesLess]
  | a :: x, b :: y => by
    have ih := bytesLess_tri x y
    simp only [Op.bytesLess]
    rcases Nat.lt_trichotomy a.toNat b.toNat with h | h | h
    · have h1 : a < b := UInt8.lt_iff_toNat_lt.2 h
      have h2 : ¬ b < a := fun h' => by have := UInt8.lt_iff_toNat_lt.1 h'; omega
      have h3 : ¬ b = a := fun h' => by subst h'; omega
      simp [h1, h2, h3]
    · have h1 : a = b := UInt8.toNat_inj.1 h
      subst h1
      have h2 : ¬ a < a := fun h' => by have := UInt8.lt_iff_toNat_lt.1 h'; omega
      simp only [h2, decide_false, Bool.false_or, beq_self_eq_true, Bool.true_and, List.cons_beq_cons]
      exact ih
    · have h1 : b < a := UInt8.lt_iff_toNat_lt.2 h
      have h2 : ¬ a < b := fun h' => by have := UInt8.lt_iff_toNat_lt.1 h'; omega
      have h3 : ¬ a = b := fun h' => by subst h'; omega
      simp [h1, h2, h3]
theorem bytesLess_le (a b : List UInt8) : (Op.bytesLess a b || a == b) = !(Op.bytesLess b a) := by
  rw [← bytesLess_tri a b]; simp
@[go_sem] theorem gtr_run (t : TypeId) (a b : ByteArray) : binOp .gtr t (.string a) (.string b) = pure (.bool (Op.bytesLess b.toList a.toList)) := by
  rw [← bytesLess_tri]; simp [binOp, Op.stringOp]
@[go_sem] theorem leq_run (t : TypeId) (a b : ByteArray) : binOp .leq t (.string a) (.string b) = pure (.bool !(Op.bytesLess b.toList a.toList)) := by
  rw [← bytesLess_le]; simp [binOp, Op.stringOp]
@[go_sem] theorem geq_run (t : TypeId) (a b : ByteArray) : binOp .geq t (.string a) (.string b) = pure (.bool !(Op.bytesLess a.toList b.toList)) := by
  simp [binOp, Op.stringOp]
open Go.Proofs.YtponmfnegdlppaaDoorW.PrintWords in
theorem rr_len {α : Type} {R : α → List Value → Prop} {size : Nat} {w : World} {A : Option Addr} {n m : Nat} {ps : List α} (h : m = n) (hr : ReadsRow R size w A m ps) : ReadsRow R size w A n ps := h ▸ hr
section
open Go.RowKit Go.Proofs.YtponmfnegdlppaaDoorW.PrintWords
variable {P : Program} {ops : Array Oper} {rest : List Oper} {o : Oper} {a : Act} {Q : Exit → Act → World → Prop} {α : Type}
/-- 'make([]T, 0, n)': an empty row of one's own, with room. -/
theorem R_make0 (d : Kd α) {w0 W : World} (base e : Nat) (hgd : o.guard = none) {N : Tmp} (hd : o.dst = some N) (t : TypeId) (x y : Operand) (ho : o.op = .makeSlice t x y) (n : Int) (hx : a.eval x = .int .i64 0) (hy : a.eval y = .int .i64 n)
    (ht : P.underlying t = some (.slice e)) (z : Value) (bytes : Nat) (hinfo : (P.info? e).map (fun i => (i.zero, i.size, i.bytes)) = some (some z, d.sz, bytes)) (hz : z.cells.size = d.sz) (hs0 : 0 < d.sz) (hb0 : 0 < bytes)
    (z0 : α) {ok okp : Nat → Prop} (_hzero : d.M W base okp z0 z.cells.toList) (_hok : ∀ k, okp k → ok k) (hfresh : ok W.heap.size) (h0 : 0 ≤ n) (hl : n.toNat * bytes ≤ 281474976710656) (HB : Below base w0 W) (hbase : base ≤ W.heap.size)
    (h : ∀ v1 w1, d.R e w1 base ok v1 [] → Below base w0 w1 → W.grownBy w1 none → (∃ b, v1.ownBlock = some b ∧ W.heap.size ≤ b) → wpList P ops Q rest (a.put o.dst v1) w1) : wpList P ops Q (o :: rest) a W := by
  obtain ⟨m, rfl⟩ := Int.eq_ofNat_of_zero_le h0
  simp only [Int.toNat_natCast] at hl
  obtain ⟨i0, hi, hzz⟩ := Option.map_eq_some_iff.1 hinfo
  simp only [Prod.mk.injEq] at hzz
  obtain ⟨hz0, hz1, hz2⟩ := hzz
  have hm : m ≤ 281474976710656 := Nat.le_trans (Nat.le_mul_of_pos_right _ hb0) hl
  refine wpList_make_own W hgd x y t ho base e i0 z d.sz ht hi hz0 hz1 .i64 .i64 (m : Int) m hx hy rfl (by rw [hz2, Nat.mul_comm]; exact hl) (by unfold maxLen; omega) hbase ?_
  intro w' ho' hg
  refine h _ w' ⟨fun k hk => ?_, [], ?_, ?_⟩ (HB.grown hg hbase (fun k hk => by cases hk)) hg ⟨W.heap.size, by simp [Value.ownBlock], Nat.le_refl _⟩
  · have : W.heap.size = k := by simpa [Value.ownBlock] using hk
    subst this
    exact hfresh
  · exact ho'
  · exact Reps.none _ _
end
end Go.Proofs.YtponmfnegdlppaaDoor.StrWords

end
section
-- Written by a program of this session (wip/tools/hprint.py, over the kit's printer), not by hand. Lean checks it.
namespace Go.Proofs.YtponmfnegdlppaaDoor.P
open Go.RowKit Go.Proofs.YtponmfnegdlppaaDoorW.PrintWords Go.Proofs.YtponmfnegdlppaaDoorW.PrintLast Go.Proofs.YtponmfnegdlppaaDoorW.PrintMore
attribute [local go_sem] max2_int min2_int max_two min_two max_three min_three max_four min_four
set_option linter.unusedVariables false
set_option linter.unusedSimpArgs false

def errW : Option Int → Value
  | none => .nilIface
  | some c => .iface 0 (.int .i64 c)
theorem errW_none : errW none = .nilIface := rfl
theorem errW_some (c : Int) : errW (some c) = .iface 0 (.int .i64 c) := rfl
theorem info29 : (Tryd.prog.info? 29).map (fun i => (i.zero, i.size, i.bytes)) = some (some (.agg #[(.int .i64 0), (.int .i64 0)]), 2, 16) := by kernel_rfl
theorem info38 : (Tryd.prog.info? 38).map (fun i => (i.zero, i.size, i.bytes)) = some (some (.agg #[(.int .i64 0), (.int .i64 0), (.int .i64 0)]), 3, 24) := by kernel_rfl
-- the values' own types
/-! #### struct type 38 -/
structure S38 where
  f0 : Int
  f1 : Int
  f2 : Int
def z38 : S38 := ⟨(0 : Int), (0 : Int), (0 : Int)⟩
def k38 : Kd S38 := Kd.iso (Kd.pair (Kd.int .i64) (Kd.pair (Kd.int .i64) (Kd.int .i64))) (fun x : S38 => (x.f0, x.f1, x.f2))
theorem k38_open {w : World} {x : S38} {cs : List Value} (h : k38.K w x cs) : cs = [.int .i64 x.f0, .int .i64 x.f1, .int .i64 x.f2] := by
  obtain ⟨_, _, rfl, rfl, ⟨_, _, rfl, rfl, rfl⟩⟩ := h
  exact rfl
theorem k38_openM {w : World} {base : Nat} {ok : Nat → Prop} {x : S38} {cs : List Value} (h : k38.M w base ok x cs) : cs = [.int .i64 x.f0, .int .i64 x.f1, .int .i64 x.f2] := by
  obtain ⟨_, _, rfl, rfl, ⟨_, _, rfl, rfl, rfl⟩⟩ := h
  exact rfl
theorem k38_mk (w : World) (x : S38)  : k38.K w x [.int .i64 x.f0, .int .i64 x.f1, .int .i64 x.f2] := ⟨[.int .i64 x.f0], [.int .i64 x.f1, .int .i64 x.f2], rfl, rfl, ⟨[.int .i64 x.f1], [.int .i64 x.f2], rfl, rfl, rfl⟩⟩
theorem k38_mkM (w : World) (base : Nat) (ok : Nat → Prop) (x : S38)  : k38.M w base ok x [.int .i64 x.f0, .int .i64 x.f1, .int .i64 x.f2] := ⟨[.int .i64 x.f0], [.int .i64 x.f1, .int .i64 x.f2], rfl, rfl, ⟨[.int .i64 x.f1], [.int .i64 x.f2], rfl, rfl, rfl⟩⟩
def rd_T38 (xs : List S38) (i : Int) : S38 := xs.getD i.toNat z38
theorem at_T38 {w : World} {A : Option Addr} {n : Nat} {xs : List S38} (h : Kd.C k38 w A n xs) (i : Int) (h0 : 0 ≤ i) (h1 : i < n) : ∃ ad , A = some ad ∧ w.cell? (ad.add (i.toNat * 3)) = some (.int .i64 (rd_T38 xs i).f0) ∧ w.cell? ⟨(ad.add (i.toNat * 3)).block, (ad.add (i.toNat * 3)).off + 1, none⟩ = some (.int .i64 (rd_T38 xs i).f1) ∧ w.cell? ⟨(ad.add (i.toNat * 3)).block, (ad.add (i.toNat * 3)).off + 2, none⟩ = some (.int .i64 (rd_T38 xs i).f2) := by
  obtain ⟨ad, c, e, _, hK, hc0⟩ := Kd.C_get h z38 i h0 h1
  have hc : ∀ j u, c[j]? = some u → w.cell? (ad.add (i.toNat * 3 + j)) = some u := hc0
  obtain rfl := k38_open hK
  exact ⟨ad, e, hc 0 _ rfl, by rw [← add_field _ _ 1 (by omega)]; exact hc 1 _ rfl, by rw [← add_field _ _ 2 (by omega)]; exact hc 2 _ rfl⟩

def rd_L2 (xs : List (List S38)) (i : Int) : (List S38) := xs.getD i.toNat ([] : List S38)
theorem at_L2 {w : World} {A : Option Addr} {n : Nat} {xs : List (List S38)} (h : Kd.C (Kd.slice 38 k38) w A n xs) (i : Int) (h0 : 0 ≤ i) (h1 : i < n) : ∃ ad A0 c0, A = some ad ∧ w.cell? (ad.add i.toNat) = some (.slice A0 (rd_L2 xs i).length c0) ∧ (rd_L2 xs i).length ≤ c0 ∧ k38.C w A0 (rd_L2 xs i).length (rd_L2 xs i) := by
  obtain ⟨ad, c, e, _, hK, hc0⟩ := Kd.C_get h ([] : List S38) i h0 h1
  have hc : ∀ j u, c[j]? = some u → w.cell? (ad.add (i.toNat * 1 + j)) = some u := hc0
  obtain ⟨A0, c0, rfl, l0, g0⟩ := hK
  exact ⟨ad, A0, c0, e, by have hq := hc 0 _ rfl; rwa [Nat.mul_one, Nat.add_zero] at hq, l0, g0⟩

/-! #### struct type 24 -/
structure S24 where
  f0 : Int
  f1 : (List S38)
  f2 : (List S38)
  f3 : Bool
def z24 : S24 := ⟨(0 : Int), ([] : List S38), ([] : List S38), false⟩
def k24 : Kd S24 := Kd.iso (Kd.pair (Kd.int .i64) (Kd.pair (Kd.slice 38 k38) (Kd.pair (Kd.slice 38 k38) Kd.bool))) (fun x : S24 => (x.f0, x.f1, x.f2, x.f3))
theorem k24_open {w : World} {x : S24} {cs : List Value} (h : k24.K w x cs) : ∃ A1 c1 A2 c2, cs = [.int .i64 x.f0, .slice A1 x.f1.length c1, .slice A2 x.f2.length c2, .bool x.f3] ∧ x.f1.length ≤ c1 ∧ k38.C w A1 x.f1.length x.f1 ∧ x.f2.length ≤ c2 ∧ k38.C w A2 x.f2.length x.f2 := by
  obtain ⟨_, _, rfl, rfl, ⟨_, _, rfl, ⟨A1, c1, rfl, l1, g1⟩, ⟨_, _, rfl, ⟨A2, c2, rfl, l2, g2⟩, rfl⟩⟩⟩ := h
  exact ⟨A1, c1, A2, c2, rfl, l1, g1, l2, g2⟩
theorem k24_openM {w : World} {base : Nat} {ok : Nat → Prop} {x : S24} {cs : List Value} (h : k24.M w base ok x cs) : ∃ v1 v2, cs = [.int .i64 x.f0, v1, v2, .bool x.f3] ∧ k38.R 38 w base ok v1 x.f1 ∧ k38.R 38 w base ok v2 x.f2 := by
  obtain ⟨_, _, rfl, rfl, ⟨_, _, rfl, ⟨v1, rfl, g1⟩, ⟨_, _, rfl, ⟨v2, rfl, g2⟩, rfl⟩⟩⟩ := h
  exact ⟨v1, v2, rfl, g1, g2⟩
theorem k24_mk (w : World) (x : S24) {A1 : Option Addr} {c1 : Nat} (l1 : x.f1.length ≤ c1) (g1 : k38.C w A1 x.f1.length x.f1) {A2 : Option Addr} {c2 : Nat} (l2 : x.f2.length ≤ c2) (g2 : k38.C w A2 x.f2.length x.f2) : k24.K w x [.int .i64 x.f0, .slice A1 x.f1.length c1, .slice A2 x.f2.length c2, .bool x.f3] := ⟨[.int .i64 x.f0], [.slice A1 x.f1.length c1, .slice A2 x.f2.length c2, .bool x.f3], rfl, rfl, ⟨[.slice A1 x.f1.length c1], [.slice A2 x.f2.length c2, .bool x.f3], rfl, ⟨A1, c1, rfl, l1, g1⟩, ⟨[.slice A2 x.f2.length c2], [.bool x.f3], rfl, ⟨A2, c2, rfl, l2, g2⟩, rfl⟩⟩⟩
theorem k24_mkM (w : World) (base : Nat) (ok : Nat → Prop) (x : S24) {v1 : Value} (g1 : k38.R 38 w base ok v1 x.f1) {v2 : Value} (g2 : k38.R 38 w base ok v2 x.f2) : k24.M w base ok x [.int .i64 x.f0, v1, v2, .bool x.f3] := ⟨[.int .i64 x.f0], [v1, v2, .bool x.f3], rfl, rfl, ⟨[v1], [v2, .bool x.f3], rfl, ⟨v1, rfl, g1⟩, ⟨[v2], [.bool x.f3], rfl, ⟨v2, rfl, g2⟩, rfl⟩⟩⟩
def rd_T24 (xs : List S24) (i : Int) : S24 := xs.getD i.toNat z24
theorem at_T24 {w : World} {A : Option Addr} {n : Nat} {xs : List S24} (h : Kd.C k24 w A n xs) (i : Int) (h0 : 0 ≤ i) (h1 : i < n) : ∃ ad A1 c1 A2 c2, A = some ad ∧ w.cell? (ad.add (i.toNat * 4)) = some (.int .i64 (rd_T24 xs i).f0) ∧ w.cell? ⟨(ad.add (i.toNat * 4)).block, (ad.add (i.toNat * 4)).off + 1, none⟩ = some (.slice A1 (rd_T24 xs i).f1.length c1) ∧ w.cell? ⟨(ad.add (i.toNat * 4)).block, (ad.add (i.toNat * 4)).off + 2, none⟩ = some (.slice A2 (rd_T24 xs i).f2.length c2) ∧ w.cell? ⟨(ad.add (i.toNat * 4)).block, (ad.add (i.toNat * 4)).off + 3, none⟩ = some (.bool (rd_T24 xs i).f3) ∧ (rd_T24 xs i).f1.length ≤ c1 ∧ k38.C w A1 (rd_T24 xs i).f1.length (rd_T24 xs i).f1 ∧ (rd_T24 xs i).f2.length ≤ c2 ∧ k38.C w A2 (rd_T24 xs i).f2.length (rd_T24 xs i).f2 := by
  obtain ⟨ad, c, e, _, hK, hc0⟩ := Kd.C_get h z24 i h0 h1
  have hc : ∀ j u, c[j]? = some u → w.cell? (ad.add (i.toNat * 4 + j)) = some u := hc0
  obtain ⟨A1, c1, A2, c2, rfl, l1, g1, l2, g2⟩ := k24_open hK
  exact ⟨ad, A1, c1, A2, c2, e, hc 0 _ rfl, by rw [← add_field _ _ 1 (by omega)]; exact hc 1 _ rfl, by rw [← add_field _ _ 2 (by omega)]; exact hc 2 _ rfl, by rw [← add_field _ _ 3 (by omega)]; exact hc 3 _ rfl, l1, g1, l2, g2⟩

/-! #### struct type 29 -/
structure S29 where
  f0 : Int
  f1 : Int
def z29 : S29 := ⟨(0 : Int), (0 : Int)⟩
def k29 : Kd S29 := Kd.iso (Kd.pair (Kd.int .i64) (Kd.int .i64)) (fun x : S29 => (x.f0, x.f1))
theorem k29_open {w : World} {x : S29} {cs : List Value} (h : k29.K w x cs) : cs = [.int .i64 x.f0, .int .i64 x.f1] := by
  obtain ⟨_, _, rfl, rfl, rfl⟩ := h
  exact rfl
theorem k29_openM {w : World} {base : Nat} {ok : Nat → Prop} {x : S29} {cs : List Value} (h : k29.M w base ok x cs) : cs = [.int .i64 x.f0, .int .i64 x.f1] := by
  obtain ⟨_, _, rfl, rfl, rfl⟩ := h
  exact rfl
theorem k29_mk (w : World) (x : S29)  : k29.K w x [.int .i64 x.f0, .int .i64 x.f1] := ⟨[.int .i64 x.f0], [.int .i64 x.f1], rfl, rfl, rfl⟩
theorem k29_mkM (w : World) (base : Nat) (ok : Nat → Prop) (x : S29)  : k29.M w base ok x [.int .i64 x.f0, .int .i64 x.f1] := ⟨[.int .i64 x.f0], [.int .i64 x.f1], rfl, rfl, rfl⟩
def rd_T29 (xs : List S29) (i : Int) : S29 := xs.getD i.toNat z29
theorem at_T29 {w : World} {A : Option Addr} {n : Nat} {xs : List S29} (h : Kd.C k29 w A n xs) (i : Int) (h0 : 0 ≤ i) (h1 : i < n) : ∃ ad , A = some ad ∧ w.cell? (ad.add (i.toNat * 2)) = some (.int .i64 (rd_T29 xs i).f0) ∧ w.cell? ⟨(ad.add (i.toNat * 2)).block, (ad.add (i.toNat * 2)).off + 1, none⟩ = some (.int .i64 (rd_T29 xs i).f1) := by
  obtain ⟨ad, c, e, _, hK, hc0⟩ := Kd.C_get h z29 i h0 h1
  have hc : ∀ j u, c[j]? = some u → w.cell? (ad.add (i.toNat * 2 + j)) = some u := hc0
  obtain rfl := k29_open hK
  exact ⟨ad, e, hc 0 _ rfl, by rw [← add_field _ _ 1 (by omega)]; exact hc 1 _ rfl⟩

/-! #### struct type 58 -/
structure S58 where
  f0 : Int
  f1 : Int
  f2 : Int
  f3 : Int
def z58 : S58 := ⟨(0 : Int), (0 : Int), (0 : Int), (0 : Int)⟩
def k58 : Kd S58 := Kd.iso (Kd.pair (Kd.int .i64) (Kd.pair (Kd.int .i64) (Kd.pair (Kd.int .i64) (Kd.int .i64)))) (fun x : S58 => (x.f0, x.f1, x.f2, x.f3))
theorem k58_open {w : World} {x : S58} {cs : List Value} (h : k58.K w x cs) : cs = [.int .i64 x.f0, .int .i64 x.f1, .int .i64 x.f2, .int .i64 x.f3] := by
  obtain ⟨_, _, rfl, rfl, ⟨_, _, rfl, rfl, ⟨_, _, rfl, rfl, rfl⟩⟩⟩ := h
  exact rfl
theorem k58_openM {w : World} {base : Nat} {ok : Nat → Prop} {x : S58} {cs : List Value} (h : k58.M w base ok x cs) : cs = [.int .i64 x.f0, .int .i64 x.f1, .int .i64 x.f2, .int .i64 x.f3] := by
  obtain ⟨_, _, rfl, rfl, ⟨_, _, rfl, rfl, ⟨_, _, rfl, rfl, rfl⟩⟩⟩ := h
  exact rfl
theorem k58_mk (w : World) (x : S58)  : k58.K w x [.int .i64 x.f0, .int .i64 x.f1, .int .i64 x.f2, .int .i64 x.f3] := ⟨[.int .i64 x.f0], [.int .i64 x.f1, .int .i64 x.f2, .int .i64 x.f3], rfl, rfl, ⟨[.int .i64 x.f1], [.int .i64 x.f2, .int .i64 x.f3], rfl, rfl, ⟨[.int .i64 x.f2], [.int .i64 x.f3], rfl, rfl, rfl⟩⟩⟩
theorem k58_mkM (w : World) (base : Nat) (ok : Nat → Prop) (x : S58)  : k58.M w base ok x [.int .i64 x.f0, .int .i64 x.f1, .int .i64 x.f2, .int .i64 x.f3] := ⟨[.int .i64 x.f0], [.int .i64 x.f1, .int .i64 x.f2, .int .i64 x.f3], rfl, rfl, ⟨[.int .i64 x.f1], [.int .i64 x.f2, .int .i64 x.f3], rfl, rfl, ⟨[.int .i64 x.f2], [.int .i64 x.f3], rfl, rfl, rfl⟩⟩⟩
def rd_T58 (xs : List S58) (i : Int) : S58 := xs.getD i.toNat z58
theorem at_T58 {w : World} {A : Option Addr} {n : Nat} {xs : List S58} (h : Kd.C k58 w A n xs) (i : Int) (h0 : 0 ≤ i) (h1 : i < n) : ∃ ad , A = some ad ∧ w.cell? (ad.add (i.toNat * 4)) = some (.int .i64 (rd_T58 xs i).f0) ∧ w.cell? ⟨(ad.add (i.toNat * 4)).block, (ad.add (i.toNat * 4)).off + 1, none⟩ = some (.int .i64 (rd_T58 xs i).f1) ∧ w.cell? ⟨(ad.add (i.toNat * 4)).block, (ad.add (i.toNat * 4)).off + 2, none⟩ = some (.int .i64 (rd_T58 xs i).f2) ∧ w.cell? ⟨(ad.add (i.toNat * 4)).block, (ad.add (i.toNat * 4)).off + 3, none⟩ = some (.int .i64 (rd_T58 xs i).f3) := by
  obtain ⟨ad, c, e, _, hK, hc0⟩ := Kd.C_get h z58 i h0 h1
  have hc : ∀ j u, c[j]? = some u → w.cell? (ad.add (i.toNat * 4 + j)) = some u := hc0
  obtain rfl := k58_open hK
  exact ⟨ad, e, hc 0 _ rfl, by rw [← add_field _ _ 1 (by omega)]; exact hc 1 _ rfl, by rw [← add_field _ _ 2 (by omega)]; exact hc 2 _ rfl, by rw [← add_field _ _ 3 (by omega)]; exact hc 3 _ rfl⟩

def rd_L7 (xs : List (List S58)) (i : Int) : (List S58) := xs.getD i.toNat ([] : List S58)
theorem at_L7 {w : World} {A : Option Addr} {n : Nat} {xs : List (List S58)} (h : Kd.C (Kd.slice 58 k58) w A n xs) (i : Int) (h0 : 0 ≤ i) (h1 : i < n) : ∃ ad A0 c0, A = some ad ∧ w.cell? (ad.add i.toNat) = some (.slice A0 (rd_L7 xs i).length c0) ∧ (rd_L7 xs i).length ≤ c0 ∧ k58.C w A0 (rd_L7 xs i).length (rd_L7 xs i) := by
  obtain ⟨ad, c, e, _, hK, hc0⟩ := Kd.C_get h ([] : List S58) i h0 h1
  have hc : ∀ j u, c[j]? = some u → w.cell? (ad.add (i.toNat * 1 + j)) = some u := hc0
  obtain ⟨A0, c0, rfl, l0, g0⟩ := hK
  exact ⟨ad, A0, c0, e, by have hq := hc 0 _ rfl; rwa [Nat.mul_one, Nat.add_zero] at hq, l0, g0⟩

end Go.Proofs.YtponmfnegdlppaaDoor.P

end
section
-- Written by a program of this session (wip/tools/hprint.py, over the kit's printer), not by hand. Lean checks it.
namespace Go.Proofs.YtponmfnegdlppaaDoor.P
open Go.RowKit Go.Proofs.YtponmfnegdlppaaDoorW.PrintWords Go.Proofs.YtponmfnegdlppaaDoor.OpenWords
set_option linter.unusedVariables false
def ok38 (x : S38) : Prop := ((Lit.int .i64 x.f0).wf = true) ∧ ((Lit.int .i64 x.f1).wf = true) ∧ (Lit.int .i64 x.f2).wf = true
def bk38 (x : S38) : Nat := (1 + (1 + 1)) + 1
instance : Inhabited S38 := ⟨z38⟩
theorem opens38 : Opens Tryd.prog 38 k38 ok38 bk38 :=
  opens_struct (fun x : S38 => (x.f0, x.f1, x.f2)) (fun a => ⟨a.1, a.2.1, a.2.2⟩) (fun _ => rfl) Tryd.underlying38 (by kernel_rfl) (opensF_cons (opens_int Tryd.underlying3 (by kernel_rfl)) rfl (opensF_cons (opens_int Tryd.underlying3 (by kernel_rfl)) rfl (opensF_one (opens_int Tryd.underlying3 (by kernel_rfl)))))
def ok24 (x : S24) : Prop := ((Lit.int .i64 x.f0).wf = true) ∧ (x.f1.length ≤ maxLen ∧ x.f1.length * 24 ≤ 140737488351232 ∧ ∀ y ∈ x.f1, ok38 y) ∧ (x.f2.length ≤ maxLen ∧ x.f2.length * 24 ≤ 140737488351232 ∧ ∀ y ∈ x.f2, ok38 y) ∧ True
def bk24 (x : S24) : Nat := (1 + (((x.f1.map fun x => (bk38 x)).sum + 1) + (((x.f2.map fun x => (bk38 x)).sum + 1) + 1))) + 1
instance : Inhabited S24 := ⟨z24⟩
theorem opens24 : Opens Tryd.prog 24 k24 ok24 bk24 :=
  opens_struct (fun x : S24 => (x.f0, x.f1, x.f2, x.f3)) (fun a => ⟨a.1, a.2.1, a.2.2.1, a.2.2.2⟩) (fun _ => rfl) Tryd.underlying24 (by kernel_rfl) (opensF_cons (opens_int Tryd.underlying3 (by kernel_rfl)) rfl (opensF_cons (opens_slice 24 Tryd.underlying22 (by kernel_rfl) (by kernel_rfl) opens38) rfl (opensF_cons (opens_slice 24 Tryd.underlying22 (by kernel_rfl) (by kernel_rfl) opens38) rfl (opensF_one (opens_bool Tryd.underlying4 (by kernel_rfl))))))
def ok29 (x : S29) : Prop := ((Lit.int .i64 x.f0).wf = true) ∧ (Lit.int .i64 x.f1).wf = true
def bk29 (x : S29) : Nat := (1 + 1) + 1
instance : Inhabited S29 := ⟨z29⟩
theorem opens29 : Opens Tryd.prog 29 k29 ok29 bk29 :=
  opens_struct (fun x : S29 => (x.f0, x.f1)) (fun a => ⟨a.1, a.2⟩) (fun _ => rfl) Tryd.underlying29 (by kernel_rfl) (opensF_cons (opens_int Tryd.underlying3 (by kernel_rfl)) rfl (opensF_one (opens_int Tryd.underlying3 (by kernel_rfl))))
def ok58 (x : S58) : Prop := ((Lit.int .i64 x.f0).wf = true) ∧ ((Lit.int .i64 x.f1).wf = true) ∧ ((Lit.int .i64 x.f2).wf = true) ∧ (Lit.int .i64 x.f3).wf = true
def bk58 (x : S58) : Nat := (1 + (1 + (1 + 1))) + 1
instance : Inhabited S58 := ⟨z58⟩
theorem opens58 : Opens Tryd.prog 58 k58 ok58 bk58 :=
  opens_struct (fun x : S58 => (x.f0, x.f1, x.f2, x.f3)) (fun a => ⟨a.1, a.2.1, a.2.2.1, a.2.2.2⟩) (fun _ => rfl) Tryd.underlying58 (by kernel_rfl) (opensF_cons (opens_int Tryd.underlying3 (by kernel_rfl)) rfl (opensF_cons (opens_int Tryd.underlying3 (by kernel_rfl)) rfl (opensF_cons (opens_int Tryd.underlying3 (by kernel_rfl)) rfl (opensF_one (opens_int Tryd.underlying3 (by kernel_rfl))))))
end Go.Proofs.YtponmfnegdlppaaDoor.P

end
section
-- Written by a program of this session (wip/tools/hprint.py, over the kit's printer), not by hand. Lean checks it.
namespace Go.Proofs.YtponmfnegdlppaaDoor.P
open Go.RowKit Go.Proofs.YtponmfnegdlppaaDoorW.PrintWords Go.Proofs.YtponmfnegdlppaaDoorW.PrintLast Go.Proofs.YtponmfnegdlppaaDoorW.PrintMore
attribute [local go_sem] max2_int min2_int max_two min_two max_three min_three max_four min_four
set_option linter.unusedVariables false
set_option linter.unusedSimpArgs false

/-! ### winnowlaw19_few: function 32 -/
def winnowlaw19_few.f (a0 : Int) (a1 : Int) (a2 : Int) : Option (Int) := if (wrap64 ((wrap64 (a2 - a1)) + 1)) = 0 then (none) else (if (Int.tmod a0 (wrap64 ((wrap64 (a2 - a1)) + 1))) < 0 then (some (wrap64 (a1 + (wrap64 ((wrap64 ((wrap64 ((Int.tmod a0 (wrap64 ((wrap64 (a2 - a1)) + 1))) + a2)) - a1)) + 1))))) else (some (wrap64 (a1 + (Int.tmod a0 (wrap64 ((wrap64 (a2 - a1)) + 1)))))))
set_option maxHeartbeats 8000000 in
set_option maxRecDepth 100000 in
theorem winnowlaw19_few.calls (a0 : Int) (a1 : Int) (a2 : Int) (r : Int) (w : World) (h : winnowlaw19_few.f a0 a1 a2 = some r) :
    Calls Tryd.prog 32 #[.int .i64 a0, .int .i64 a1, .int .i64 a2] w fun e w' => e = .returned (.int .i64 r) ∧ Drawn0 w w' := by
  have H : (if (wrap64 ((wrap64 (a2 - a1)) + 1)) = 0 then (none) else (if (Int.tmod a0 (wrap64 ((wrap64 (a2 - a1)) + 1))) < 0 then (some (wrap64 (a1 + (wrap64 ((wrap64 ((wrap64 ((Int.tmod a0 (wrap64 ((wrap64 (a2 - a1)) + 1))) + a2)) - a1)) + 1))))) else (some (wrap64 (a1 + (Int.tmod a0 (wrap64 ((wrap64 (a2 - a1)) + 1)))))))) = some r := h
  clear h
  by_cases c4 : (wrap64 ((wrap64 (a2 - a1)) + 1)) = 0
  · rw [if_pos c4] at H
    exact absurd H (by simp)
  · rw [if_neg c4] at H
    have c4b0 : ((wrap64 ((wrap64 (a2 - a1)) + 1)) == 0) = false := beq_eq_false_iff_ne.mpr c4
    have c4b1 : ((wrap64 ((wrap64 (a2 - a1)) + 1)) != 0) = true := bne_iff_ne.mpr c4
    by_cases c5 : (Int.tmod a0 (wrap64 ((wrap64 (a2 - a1)) + 1))) < 0
    · rw [if_pos c5] at H
      have c5b0 : decide ((Int.tmod a0 (wrap64 ((wrap64 (a2 - a1)) + 1))) < 0) = true := decide_eq_true c5
      clear c5
      obtain rfl := Option.some.inj H
      go_enter Tryd.func32, Tryd.ntmps32
      go_wp2
      go_ret
      exact ⟨by first | rfl | (simp; done) | (simp [*]; done), by repeat (first | exact Drawn0.refl _ | apply Drawn0.step)⟩
    · rw [if_neg c5] at H
      have c5b0 : decide ((Int.tmod a0 (wrap64 ((wrap64 (a2 - a1)) + 1))) < 0) = false := decide_eq_false c5
      clear c5
      obtain rfl := Option.some.inj H
      go_enter Tryd.func32, Tryd.ntmps32
      go_wp2
      go_ret
      exact ⟨by first | rfl | (simp; done) | (simp [*]; done), by repeat (first | exact Drawn0.refl _ | apply Drawn0.step)⟩

end Go.Proofs.YtponmfnegdlppaaDoor.P

end
section
-- Written by a program of this session (wip/tools/hprint.py, over the kit's printer), not by hand. Lean checks it.
namespace Go.Proofs.YtponmfnegdlppaaDoor.P
open Go.RowKit Go.Proofs.YtponmfnegdlppaaDoorW.PrintWords Go.Proofs.YtponmfnegdlppaaDoorW.PrintLast Go.Proofs.YtponmfnegdlppaaDoorW.PrintMore
attribute [local go_sem] max2_int min2_int max_two min_two max_three min_three max_four min_four
set_option linter.unusedVariables false
set_option linter.unusedSimpArgs false

/-! ### winnowlaw19_picked: function 36 -/
def winnowlaw19_picked.f (a0 : Int) (a1 : Int) (a2 : Int) : Option (Int × Int) := (winnowlaw19_few.f a0 0 (wrap64 ((wrap64 (a1 + a2)) - 1))).bind fun t367 => (if t367 < a1 then (some (0, t367)) else (some (1, wrap64 (t367 - a1))))
set_option maxHeartbeats 8000000 in
set_option maxRecDepth 100000 in
theorem winnowlaw19_picked.calls (a0 : Int) (a1 : Int) (a2 : Int) (r1 : Int) (r2 : Int) (w : World) (h : winnowlaw19_picked.f a0 a1 a2 = some (r1, r2)) :
    Calls Tryd.prog 36 #[.int .i64 a0, .int .i64 a1, .int .i64 a2] w fun e w' => e = .returned (.agg #[.int .i64 r1, .int .i64 r2]) ∧ Below w.heap.size w w' := by
  have hu29 := Tryd.underlying29
  have HB := Aside0.mk (Below.refl w.heap.size w)
  have H : ((winnowlaw19_few.f a0 0 (wrap64 ((wrap64 (a1 + a2)) - 1))).bind fun t367 => (if t367 < a1 then (some (0, t367)) else (some (1, wrap64 (t367 - a1))))) = some (r1, r2) := h
  clear h
  replace H := Option.bind_eq_some_iff.mp H
  obtain ⟨t367, A40, H⟩ := H
  replace H : (if t367 < a1 then (some (0, t367)) else (some (1, wrap64 (t367 - a1)))) = some (r1, r2) := H
  have A4 := Aside0.mk A40
  clear A40
  by_cases c5 : t367 < a1
  · rw [if_pos c5] at H
    have c5b0 : decide (t367 < a1) = true := decide_eq_true c5
    clear c5
    simp only [Option.some.injEq, Prod.mk.injEq] at H
    obtain ⟨rfl, rfl⟩ := H
    go_enter Tryd.func36, Tryd.ntmps36
    go_wp2_with (first | ((with_reducible refine gate_dst (N := 6) rfl ?_); refine box_event ?hg (N := 6) ?hd (cs := #[.int .i64 0, .int .i64 0]) (t := 29) ?hr ?_; (case hd => rfl); (case hg => rfl); (case hr => first | (go_simp; done) | (go_simp; rfl)); intro gb366 hg w6 hbox hb; have n0_ := Aside0.mk (below_step (by repeat (first | (with_reducible first | exact HB.out | apply below_alloc | apply pw_below_drewN | apply below_drew1) | exact HB.out)) hb); have n1_ := Aside0.mk (hbox); have n2_ := Aside0.mk ((by rw [hg]; exact (below_size (by repeat (first | (with_reducible first | exact HB.out | apply below_alloc | apply pw_below_drewN | apply below_drew1) | exact HB.out))) : w.heap.size ≤ gb366)); have n3_ := Aside0.mk ((by rw [hg]; exact (below_size (by repeat (first | (with_reducible first | exact HB.out | apply below_alloc | apply pw_below_drewN | apply below_drew1) | exact HB.out))) : w.heap.size ≤ gb366)); clear HB; have HB := n0_; have BK366 := n1_; have GW366 := n2_; have GE366 := n3_; clear n0_ n1_ n2_ n3_; clear hb hbox hg) | ((with_reducible refine gate_callee (f := 32) rfl ?_); refine goesL_ (some 13) rfl rfl Tryd.func32 (by kernel_rfl) rfl #[.int .i64 a0, .int .i64 0, .int .i64 (wrap64 ((wrap64 (a1 + a2)) - 1))] rfl (by (try simp only [List.map_toArray, List.map_cons, List.map_nil]); first | done | rfl | (simp only [List.length_drop, List.length_take]; rfl)) ?_; (with_reducible refine (winnowlaw19_few.calls a0 0 (wrap64 ((wrap64 (a1 + a2)) - 1)) t367 _ A4.out).mono ?_); rintro e w' ⟨rfl, ⟨nd, rfl⟩⟩; refine ⟨_, rfl, ?_⟩; (try (rw [drewN_self w6]; generalize hq_ : World.drewN w6 _ = w6; have n0_ : Aside0 (w6.heap[gb366]? = some (.cells #[.int .i64 0, .int .i64 0] 29 (0, 0))) := ⟨by rw [← hq_]; exact (by (with_reducible repeat (first | refine blk_drewN ?_ _ | refine blk_drew ?_ | refine blk_alloc ?_ _)); exact BK366.out)⟩; have n1_ : Aside0 (Below w.heap.size w w6) := ⟨by rw [← hq_]; exact (by repeat (first | (with_reducible first | exact HB.out | apply below_alloc | apply pw_below_drewN | apply below_drew1 | refine below_set ?_ GE366.out) | exact HB.out))⟩; clear BK366 HB hq_; have BK366 := n0_; have HB := n1_; clear n0_ n1_)); have hcz7_0 : w6.cell? ⟨gb366, 0, none⟩ = some (.int .i64 0) := (blk_cell BK366.out 0).trans rfl; have hcz7_1 : w6.cell? ⟨gb366, 1, none⟩ = some (.int .i64 0) := (blk_cell BK366.out 1).trans rfl; have hfz7_0 := blk_frozen BK366.out 0; have hfz7_1 := blk_frozen BK366.out 1))
    refine bodyPost_ret (results_cell_row rfl _ _ gb366 29 #[.int .i64 0, .int .i64 t367] (0, 0) _ rfl (by (with_reducible repeat (first | refine blk_drewN ?_ _ | refine blk_drew ?_ | refine blk_alloc ?_ _)); refine blk_put (cs := #[.int .i64 0, .int .i64 0]) ?_ 1 _ rfl; (with_reducible repeat (first | refine blk_drewN ?_ _ | refine blk_drew ?_ | refine blk_alloc ?_ _)); refine blk_put (cs := #[.int .i64 0, .int .i64 0]) ?_ 0 _ rfl; (with_reducible repeat (first | refine blk_drewN ?_ _ | refine blk_drew ?_ | refine blk_alloc ?_ _)); exact BK366.out) Tryd.underlying29 rfl (by kernel_rfl)) rfl ?_
    exact ⟨by first | rfl | (simp [errW_none, errW_some] <;> rfl) | (simp [*, errW_none, errW_some] <;> rfl), by repeat (first | (with_reducible first | exact HB.out | apply below_alloc | apply pw_below_drewN | apply below_drew1 | refine below_set ?_ GE366.out) | exact HB.out)⟩
  · rw [if_neg c5] at H
    have c5b0 : decide (t367 < a1) = false := decide_eq_false c5
    clear c5
    simp only [Option.some.injEq, Prod.mk.injEq] at H
    obtain ⟨rfl, rfl⟩ := H
    go_enter Tryd.func36, Tryd.ntmps36
    go_wp2_with (first | ((with_reducible refine gate_dst (N := 6) rfl ?_); refine box_event ?hg (N := 6) ?hd (cs := #[.int .i64 0, .int .i64 0]) (t := 29) ?hr ?_; (case hd => rfl); (case hg => rfl); (case hr => first | (go_simp; done) | (go_simp; rfl)); intro gb366 hg w8 hbox hb; have n0_ := Aside0.mk (below_step (by repeat (first | (with_reducible first | exact HB.out | apply below_alloc | apply pw_below_drewN | apply below_drew1) | exact HB.out)) hb); have n1_ := Aside0.mk (hbox); have n2_ := Aside0.mk ((by rw [hg]; exact (below_size (by repeat (first | (with_reducible first | exact HB.out | apply below_alloc | apply pw_below_drewN | apply below_drew1) | exact HB.out))) : w.heap.size ≤ gb366)); have n3_ := Aside0.mk ((by rw [hg]; exact (below_size (by repeat (first | (with_reducible first | exact HB.out | apply below_alloc | apply pw_below_drewN | apply below_drew1) | exact HB.out))) : w.heap.size ≤ gb366)); clear HB; have HB := n0_; have BK366 := n1_; have GW366 := n2_; have GE366 := n3_; clear n0_ n1_ n2_ n3_; clear hb hbox hg) | ((with_reducible refine gate_callee (f := 32) rfl ?_); refine goesL_ (some 13) rfl rfl Tryd.func32 (by kernel_rfl) rfl #[.int .i64 a0, .int .i64 0, .int .i64 (wrap64 ((wrap64 (a1 + a2)) - 1))] rfl (by (try simp only [List.map_toArray, List.map_cons, List.map_nil]); first | done | rfl | (simp only [List.length_drop, List.length_take]; rfl)) ?_; (with_reducible refine (winnowlaw19_few.calls a0 0 (wrap64 ((wrap64 (a1 + a2)) - 1)) t367 _ A4.out).mono ?_); rintro e w' ⟨rfl, ⟨nd, rfl⟩⟩; refine ⟨_, rfl, ?_⟩; (try (rw [drewN_self w8]; generalize hq_ : World.drewN w8 _ = w8; have n0_ : Aside0 (w8.heap[gb366]? = some (.cells #[.int .i64 0, .int .i64 0] 29 (0, 0))) := ⟨by rw [← hq_]; exact (by (with_reducible repeat (first | refine blk_drewN ?_ _ | refine blk_drew ?_ | refine blk_alloc ?_ _)); exact BK366.out)⟩; have n1_ : Aside0 (Below w.heap.size w w8) := ⟨by rw [← hq_]; exact (by repeat (first | (with_reducible first | exact HB.out | apply below_alloc | apply pw_below_drewN | apply below_drew1 | refine below_set ?_ GE366.out) | exact HB.out))⟩; clear BK366 HB hq_; have BK366 := n0_; have HB := n1_; clear n0_ n1_)); have hcz9_0 : w8.cell? ⟨gb366, 0, none⟩ = some (.int .i64 0) := (blk_cell BK366.out 0).trans rfl; have hcz9_1 : w8.cell? ⟨gb366, 1, none⟩ = some (.int .i64 0) := (blk_cell BK366.out 1).trans rfl; have hfz9_0 := blk_frozen BK366.out 0; have hfz9_1 := blk_frozen BK366.out 1))
    refine bodyPost_ret (results_cell_row rfl _ _ gb366 29 #[.int .i64 1, .int .i64 (wrap64 (t367 - a1))] (0, 0) _ rfl (by (with_reducible repeat (first | refine blk_drewN ?_ _ | refine blk_drew ?_ | refine blk_alloc ?_ _)); refine blk_put (cs := #[.int .i64 1, .int .i64 0]) ?_ 1 _ rfl; (with_reducible repeat (first | refine blk_drewN ?_ _ | refine blk_drew ?_ | refine blk_alloc ?_ _)); refine blk_put (cs := #[.int .i64 0, .int .i64 0]) ?_ 0 _ rfl; (with_reducible repeat (first | refine blk_drewN ?_ _ | refine blk_drew ?_ | refine blk_alloc ?_ _)); exact BK366.out) Tryd.underlying29 rfl (by kernel_rfl)) rfl ?_
    exact ⟨by first | rfl | (simp [errW_none, errW_some] <;> rfl) | (simp [*, errW_none, errW_some] <;> rfl), by repeat (first | (with_reducible first | exact HB.out | apply below_alloc | apply pw_below_drewN | apply below_drew1 | refine below_set ?_ GE366.out) | exact HB.out)⟩

end Go.Proofs.YtponmfnegdlppaaDoor.P

end
section
-- Written by a program of this session (wip/tools/hprint.py, over the kit's printer), not by hand. Lean checks it.
namespace Go.Proofs.YtponmfnegdlppaaDoor.P
open Go.RowKit Go.Proofs.YtponmfnegdlppaaDoorW.PrintWords Go.Proofs.YtponmfnegdlppaaDoorW.PrintLast Go.Proofs.YtponmfnegdlppaaDoorW.PrintMore
attribute [local go_sem] max2_int min2_int max_two min_two max_three min_three max_four min_four
set_option linter.unusedVariables false
set_option linter.unusedSimpArgs false

/-! ### winnowlaw19_number: function 61 -/
def winnowlaw19_number.f (a0_0 : Int) (a0_1 : Int) (a1 : Int) : Option (Int) := if a0_0 = 0 then (some a0_1) else (some (wrap64 (a1 + a0_1)))
set_option maxHeartbeats 8000000 in
set_option maxRecDepth 100000 in
theorem winnowlaw19_number.calls (a0_0 : Int) (a0_1 : Int) (a1 : Int) (r : Int) (w : World) (h : winnowlaw19_number.f a0_0 a0_1 a1 = some r) :
    Calls Tryd.prog 61 #[.agg #[.int .i64 a0_0, .int .i64 a0_1], .int .i64 a1] w fun e w' => e = .returned (.int .i64 r) ∧ Below w.heap.size w w' := by
  have hu29 := Tryd.underlying29
  have HB := Aside0.mk (Below.refl w.heap.size w)
  have H : (if a0_0 = 0 then (some a0_1) else (some (wrap64 (a1 + a0_1)))) = some r := h
  clear h
  by_cases c3 : a0_0 = 0
  · rw [if_pos c3] at H
    have c3b0 : (a0_0 == 0) = true := beq_iff_eq.mpr c3
    have c3b1 : (a0_0 != 0) = false := bne_eq_false_iff_eq.mpr c3
    clear c3
    obtain rfl := Option.some.inj H
    go_enter Tryd.func61, Tryd.ntmps61
    go_wp2_with (first | ((with_reducible refine gate_dst (N := 2) rfl ?_); refine box_event ?hg (N := 2) ?hd (cs := #[.int .i64 a0_0, .int .i64 a0_1]) (t := 29) ?hr ?_; (case hd => rfl); (case hg => rfl); (case hr => first | (go_simp; done) | (go_simp; rfl)); intro gb368 hg w4 hbox hb; have n0_ := Aside0.mk (below_step (by repeat (first | (with_reducible first | exact HB.out | apply below_alloc | apply pw_below_drewN | apply below_drew1) | exact HB.out)) hb); have n1_ := Aside0.mk (hbox); have n2_ := Aside0.mk ((by rw [hg]; exact (below_size (by repeat (first | (with_reducible first | exact HB.out | apply below_alloc | apply pw_below_drewN | apply below_drew1) | exact HB.out))) : w.heap.size ≤ gb368)); have n3_ := Aside0.mk ((by rw [hg]; exact (below_size (by repeat (first | (with_reducible first | exact HB.out | apply below_alloc | apply pw_below_drewN | apply below_drew1) | exact HB.out))) : w.heap.size ≤ gb368)); clear HB; have HB := n0_; have BK368 := n1_; have GW368 := n2_; have GE368 := n3_; clear n0_ n1_ n2_ n3_; clear hb hbox hg; have hcz5_0 : w4.cell? ⟨gb368, 0, none⟩ = some (.int .i64 a0_0) := (blk_cell BK368.out 0).trans rfl; have hcz5_1 : w4.cell? ⟨gb368, 1, none⟩ = some (.int .i64 a0_1) := (blk_cell BK368.out 1).trans rfl; have hfz5_0 := blk_frozen BK368.out 0; have hfz5_1 := blk_frozen BK368.out 1))
    go_ret
    exact ⟨by first | rfl | (simp [errW_none, errW_some] <;> rfl) | (simp [*, errW_none, errW_some] <;> rfl), by repeat (first | (with_reducible first | exact HB.out | apply below_alloc | apply pw_below_drewN | apply below_drew1 | refine below_set ?_ GE368.out) | exact HB.out)⟩
  · rw [if_neg c3] at H
    have c3b0 : (a0_0 == 0) = false := beq_eq_false_iff_ne.mpr c3
    have c3b1 : (a0_0 != 0) = true := bne_iff_ne.mpr c3
    obtain rfl := Option.some.inj H
    go_enter Tryd.func61, Tryd.ntmps61
    go_wp2_with (first | ((with_reducible refine gate_dst (N := 2) rfl ?_); refine box_event ?hg (N := 2) ?hd (cs := #[.int .i64 a0_0, .int .i64 a0_1]) (t := 29) ?hr ?_; (case hd => rfl); (case hg => rfl); (case hr => first | (go_simp; done) | (go_simp; rfl)); intro gb368 hg w6 hbox hb; have n0_ := Aside0.mk (below_step (by repeat (first | (with_reducible first | exact HB.out | apply below_alloc | apply pw_below_drewN | apply below_drew1) | exact HB.out)) hb); have n1_ := Aside0.mk (hbox); have n2_ := Aside0.mk ((by rw [hg]; exact (below_size (by repeat (first | (with_reducible first | exact HB.out | apply below_alloc | apply pw_below_drewN | apply below_drew1) | exact HB.out))) : w.heap.size ≤ gb368)); have n3_ := Aside0.mk ((by rw [hg]; exact (below_size (by repeat (first | (with_reducible first | exact HB.out | apply below_alloc | apply pw_below_drewN | apply below_drew1) | exact HB.out))) : w.heap.size ≤ gb368)); clear HB; have HB := n0_; have BK368 := n1_; have GW368 := n2_; have GE368 := n3_; clear n0_ n1_ n2_ n3_; clear hb hbox hg; have hcz7_0 : w6.cell? ⟨gb368, 0, none⟩ = some (.int .i64 a0_0) := (blk_cell BK368.out 0).trans rfl; have hcz7_1 : w6.cell? ⟨gb368, 1, none⟩ = some (.int .i64 a0_1) := (blk_cell BK368.out 1).trans rfl; have hfz7_0 := blk_frozen BK368.out 0; have hfz7_1 := blk_frozen BK368.out 1))
    go_ret
    exact ⟨by first | rfl | (simp [errW_none, errW_some] <;> rfl) | (simp [*, errW_none, errW_some] <;> rfl), by repeat (first | (with_reducible first | exact HB.out | apply below_alloc | apply pw_below_drewN | apply below_drew1 | refine below_set ?_ GE368.out) | exact HB.out)⟩

end Go.Proofs.YtponmfnegdlppaaDoor.P

end
section
-- Written by a program of this session (wip/tools/hprint.py, over the kit's printer), not by hand. Lean checks it.
namespace Go.Proofs.YtponmfnegdlppaaDoor.P
open Go.RowKit Go.Proofs.YtponmfnegdlppaaDoorW.PrintWords Go.Proofs.YtponmfnegdlppaaDoorW.PrintLast Go.Proofs.YtponmfnegdlppaaDoorW.PrintMore
attribute [local go_sem] max2_int min2_int max_two min_two max_three min_three max_four min_four
set_option linter.unusedVariables false
set_option linter.unusedSimpArgs false

/-! ### winnowlaw19_attempt: function 63 -/
def winnowlaw19_attempt.f (a0_0 : Int) (l0_1 : List (S38)) (l0_2 : List (S38)) (a0_3 : Bool) (a1_0 : Int) (a1_1 : Int) : Option (Int) := if a1_0 = 0 then (if 0 ≤ a1_1 then (if a1_1 < (l0_1.length : Int) then (some ((rd_T38 l0_1 a1_1).f1)) else (none)) else (none)) else (if 0 ≤ a1_1 then (if a1_1 < (l0_2.length : Int) then (some ((rd_T38 l0_2 a1_1).f1)) else (none)) else (none))
set_option maxHeartbeats 8000000 in
set_option maxRecDepth 100000 in
theorem winnowlaw19_attempt.calls (a0_0 : Int) (A0_1 : Option Addr) (c0_1 : Nat) (l0_1 : List (S38)) (A0_2 : Option Addr) (c0_2 : Nat) (l0_2 : List (S38)) (a0_3 : Bool) (a1_0 : Int) (a1_1 : Int) (r : Int) (w : World) (hr0_1 : Kd.C k38 w A0_1 l0_1.length l0_1) (hc0_1 : l0_1.length ≤ c0_1) (hr0_2 : Kd.C k38 w A0_2 l0_2.length l0_2) (hc0_2 : l0_2.length ≤ c0_2) (h : winnowlaw19_attempt.f a0_0 l0_1 l0_2 a0_3 a1_0 a1_1 = some r) :
    Calls Tryd.prog 63 #[.agg #[.int .i64 a0_0, .slice A0_1 l0_1.length c0_1, .slice A0_2 l0_2.length c0_2, .bool a0_3], .agg #[.int .i64 a1_0, .int .i64 a1_1]] w fun e w' => e = .returned (.int .i64 r) ∧ Below w.heap.size w w' := by
  have hu24 := Tryd.underlying24
  have hu29 := Tryd.underlying29
  have HR0_1 := Aside0.mk hr0_1
  have HC0_1 := Aside0.mk hc0_1
  clear hr0_1 hc0_1
  have HR0_2 := Aside0.mk hr0_2
  have HC0_2 := Aside0.mk hc0_2
  clear hr0_2 hc0_2
  have HB := Aside0.mk (Below.refl w.heap.size w)
  have H : (if a1_0 = 0 then (if 0 ≤ a1_1 then (if a1_1 < (l0_1.length : Int) then (some ((rd_T38 l0_1 a1_1).f1)) else (none)) else (none)) else (if 0 ≤ a1_1 then (if a1_1 < (l0_2.length : Int) then (some ((rd_T38 l0_2 a1_1).f1)) else (none)) else (none))) = some r := h
  clear h
  by_cases c3 : a1_0 = 0
  · rw [if_pos c3] at H
    have c3b0 : (a1_0 == 0) = true := beq_iff_eq.mpr c3
    have c3b1 : (a1_0 != 0) = false := bne_eq_false_iff_eq.mpr c3
    clear c3
    by_cases c4 : 0 ≤ a1_1
    · rw [if_pos c4] at H
      have c4b0 : decide (0 ≤ a1_1) = true := decide_eq_true c4
      clear c4
      by_cases c5 : a1_1 < (l0_1.length : Int)
      · rw [if_pos c5] at H
        have c5b0 : decide (a1_1 < (l0_1.length : Int)) = true := decide_eq_true c5
        clear c5
        obtain rfl := Option.some.inj H
        go_enter Tryd.func63, Tryd.ntmps63
        go_wp2_with (first | ((with_reducible refine gate_dst (N := 2) rfl ?_); refine box_event ?hg (N := 2) ?hd (cs := #[.int .i64 a0_0, .slice A0_1 l0_1.length c0_1, .slice A0_2 l0_2.length c0_2, .bool a0_3]) (t := 24) ?hr ?_; (case hd => rfl); (case hg => rfl); (case hr => first | (go_simp; done) | (go_simp; rfl)); intro gb369 hg w6 hbox hb; have n0_ := Aside0.mk (below_step (by repeat (first | (with_reducible first | exact HB.out | apply below_alloc | apply pw_below_drewN | apply below_drew1) | exact HB.out)) hb); have n1_ := Aside0.mk (hbox); have n2_ := Aside0.mk ((by rw [hg]; exact (below_size (by repeat (first | (with_reducible first | exact HB.out | apply below_alloc | apply pw_below_drewN | apply below_drew1) | exact HB.out))) : w.heap.size ≤ gb369)); have n3_ := Aside0.mk ((by rw [hg]; exact (below_size (by repeat (first | (with_reducible first | exact HB.out | apply below_alloc | apply pw_below_drewN | apply below_drew1) | exact HB.out))) : w.heap.size ≤ gb369)); clear HB; have HB := n0_; have BK369 := n1_; have GW369 := n2_; have GE369 := n3_; clear n0_ n1_ n2_ n3_; clear hb hbox hg) | ((with_reducible refine gate_dst (N := 3) rfl ?_); refine box_event ?hg (N := 3) ?hd (cs := #[.int .i64 a1_0, .int .i64 a1_1]) (t := 29) ?hr ?_; (case hd => rfl); (case hg => rfl); (case hr => first | (go_simp; done) | (go_simp; rfl)); intro gb370 hg w7 hbox hb; have n0_ := Aside0.mk (blk_below (g := gb369) (o := .cells #[.int .i64 a0_0, .slice A0_1 l0_1.length c0_1, .slice A0_2 l0_2.length c0_2, .bool a0_3] 24 (0, 0)) (by (with_reducible repeat (first | refine blk_drewN ?_ _ | refine blk_drew ?_ | refine blk_alloc ?_ _)); exact BK369.out) hb); have n1_ := Aside0.mk (below_step (by repeat (first | (with_reducible first | exact HB.out | apply below_alloc | apply pw_below_drewN | apply below_drew1 | refine below_set ?_ GE369.out) | exact HB.out)) hb); have n2_ := Aside0.mk (hbox); have n3_ := Aside0.mk ((by rw [hg]; exact (below_size (by repeat (first | (with_reducible first | exact HB.out | apply below_alloc | apply pw_below_drewN | apply below_drew1 | refine below_set ?_ GE369.out) | exact HB.out))) : w.heap.size ≤ gb370)); have n4_ := Aside0.mk ((by rw [hg]; exact (below_size (by repeat (first | (with_reducible first | exact HB.out | apply below_alloc | apply pw_below_drewN | apply below_drew1 | refine below_set ?_ GE369.out) | exact HB.out))) : w.heap.size ≤ gb370)); have n5_ := Aside0.mk ((by rw [hg]; exact Nat.ne_of_lt (blk_lt (g := gb369) (o := .cells #[.int .i64 a0_0, .slice A0_1 l0_1.length c0_1, .slice A0_2 l0_2.length c0_2, .bool a0_3] 24 (0, 0)) (by (with_reducible repeat (first | refine blk_drewN ?_ _ | refine blk_drew ?_ | refine blk_alloc ?_ _)); exact BK369.out)) : gb369 ≠ gb370)); have n6_ := Aside0.mk ((by rw [hg]; exact Nat.ne_of_gt (blk_lt (g := gb369) (o := .cells #[.int .i64 a0_0, .slice A0_1 l0_1.length c0_1, .slice A0_2 l0_2.length c0_2, .bool a0_3] 24 (0, 0)) (by (with_reducible repeat (first | refine blk_drewN ?_ _ | refine blk_drew ?_ | refine blk_alloc ?_ _)); exact BK369.out)) : gb370 ≠ gb369)); clear BK369; clear HB; have BK369 := n0_; have HB := n1_; have BK370 := n2_; have GW370 := n3_; have GE370 := n4_; have NB369_370 := n5_; have NB370_369 := n6_; clear n0_ n1_ n2_ n3_ n4_ n5_ n6_; clear hb hbox hg; have hnb8 := NB370_369.out; have hnc8 := NB369_370.out; have hcz9_0 : w7.cell? ⟨gb370, 0, none⟩ = some (.int .i64 a1_0) := (blk_cell BK370.out 0).trans rfl; have hcz9_1 : w7.cell? ⟨gb370, 1, none⟩ = some (.int .i64 a1_1) := (blk_cell BK370.out 1).trans rfl; have hfz9_0 := blk_frozen BK370.out 0; have hfz9_1 := blk_frozen BK370.out 1; have hcz10_0 : w7.cell? ⟨gb369, 0, none⟩ = some (.int .i64 a0_0) := (blk_cell BK369.out 0).trans rfl; have hcz10_1 : w7.cell? ⟨gb369, 1, none⟩ = some (.slice A0_1 l0_1.length c0_1) := (blk_cell BK369.out 1).trans rfl; have hcz10_2 : w7.cell? ⟨gb369, 2, none⟩ = some (.slice A0_2 l0_2.length c0_2) := (blk_cell BK369.out 2).trans rfl; have hcz10_3 : w7.cell? ⟨gb369, 3, none⟩ = some (.bool a0_3) := (blk_cell BK369.out 3).trans rfl; have hfz10_0 := blk_frozen BK369.out 0; have hfz10_1 := blk_frozen BK369.out 1; have hfz10_2 := blk_frozen BK369.out 2; have hfz10_3 := blk_frozen BK369.out 3; have p371 : 0 ≤ (a1_1 : Int) := of_decide_eq_true (by first | (with_reducible assumption) | assumption); have q371 : a1_1 < (l0_1.length : Int) := of_decide_eq_true (by first | (with_reducible assumption) | assumption); obtain ⟨ad371, e371, hx371_0, hx371_1, hx371_2⟩ := at_T38 HR0_1.out a1_1 p371 q371; cases e371; replace hx371_0 := (HB.out.cell (World.block_lt_of_cell? w _ hx371_0)).trans hx371_0; replace hx371_1 := (HB.out.cell (World.block_lt_of_cell? w _ hx371_1)).trans hx371_1; replace hx371_2 := (HB.out.cell (World.block_lt_of_cell? w _ hx371_2)).trans hx371_2; replace p371 := eq_true p371; replace q371 := eq_true q371))
        go_ret
        exact ⟨by first | rfl | (simp [errW_none, errW_some] <;> rfl) | (simp [*, errW_none, errW_some] <;> rfl), by repeat (first | (with_reducible first | exact HB.out | apply below_alloc | apply pw_below_drewN | apply below_drew1 | refine below_set ?_ GE369.out | refine below_set ?_ GE370.out) | exact HB.out)⟩
      · rw [if_neg c5] at H
        exact absurd H (by simp)
    · rw [if_neg c4] at H
      exact absurd H (by simp)
  · rw [if_neg c3] at H
    have c3b0 : (a1_0 == 0) = false := beq_eq_false_iff_ne.mpr c3
    have c3b1 : (a1_0 != 0) = true := bne_iff_ne.mpr c3
    by_cases c11 : 0 ≤ a1_1
    · rw [if_pos c11] at H
      have c11b0 : decide (0 ≤ a1_1) = true := decide_eq_true c11
      clear c11
      by_cases c12 : a1_1 < (l0_2.length : Int)
      · rw [if_pos c12] at H
        have c12b0 : decide (a1_1 < (l0_2.length : Int)) = true := decide_eq_true c12
        clear c12
        obtain rfl := Option.some.inj H
        go_enter Tryd.func63, Tryd.ntmps63
        go_wp2_with (first | ((with_reducible refine gate_dst (N := 2) rfl ?_); refine box_event ?hg (N := 2) ?hd (cs := #[.int .i64 a0_0, .slice A0_1 l0_1.length c0_1, .slice A0_2 l0_2.length c0_2, .bool a0_3]) (t := 24) ?hr ?_; (case hd => rfl); (case hg => rfl); (case hr => first | (go_simp; done) | (go_simp; rfl)); intro gb369 hg w13 hbox hb; have n0_ := Aside0.mk (below_step (by repeat (first | (with_reducible first | exact HB.out | apply below_alloc | apply pw_below_drewN | apply below_drew1) | exact HB.out)) hb); have n1_ := Aside0.mk (hbox); have n2_ := Aside0.mk ((by rw [hg]; exact (below_size (by repeat (first | (with_reducible first | exact HB.out | apply below_alloc | apply pw_below_drewN | apply below_drew1) | exact HB.out))) : w.heap.size ≤ gb369)); have n3_ := Aside0.mk ((by rw [hg]; exact (below_size (by repeat (first | (with_reducible first | exact HB.out | apply below_alloc | apply pw_below_drewN | apply below_drew1) | exact HB.out))) : w.heap.size ≤ gb369)); clear HB; have HB := n0_; have BK369 := n1_; have GW369 := n2_; have GE369 := n3_; clear n0_ n1_ n2_ n3_; clear hb hbox hg) | ((with_reducible refine gate_dst (N := 3) rfl ?_); refine box_event ?hg (N := 3) ?hd (cs := #[.int .i64 a1_0, .int .i64 a1_1]) (t := 29) ?hr ?_; (case hd => rfl); (case hg => rfl); (case hr => first | (go_simp; done) | (go_simp; rfl)); intro gb370 hg w14 hbox hb; have n0_ := Aside0.mk (blk_below (g := gb369) (o := .cells #[.int .i64 a0_0, .slice A0_1 l0_1.length c0_1, .slice A0_2 l0_2.length c0_2, .bool a0_3] 24 (0, 0)) (by (with_reducible repeat (first | refine blk_drewN ?_ _ | refine blk_drew ?_ | refine blk_alloc ?_ _)); exact BK369.out) hb); have n1_ := Aside0.mk (below_step (by repeat (first | (with_reducible first | exact HB.out | apply below_alloc | apply pw_below_drewN | apply below_drew1 | refine below_set ?_ GE369.out) | exact HB.out)) hb); have n2_ := Aside0.mk (hbox); have n3_ := Aside0.mk ((by rw [hg]; exact (below_size (by repeat (first | (with_reducible first | exact HB.out | apply below_alloc | apply pw_below_drewN | apply below_drew1 | refine below_set ?_ GE369.out) | exact HB.out))) : w.heap.size ≤ gb370)); have n4_ := Aside0.mk ((by rw [hg]; exact (below_size (by repeat (first | (with_reducible first | exact HB.out | apply below_alloc | apply pw_below_drewN | apply below_drew1 | refine below_set ?_ GE369.out) | exact HB.out))) : w.heap.size ≤ gb370)); have n5_ := Aside0.mk ((by rw [hg]; exact Nat.ne_of_lt (blk_lt (g := gb369) (o := .cells #[.int .i64 a0_0, .slice A0_1 l0_1.length c0_1, .slice A0_2 l0_2.length c0_2, .bool a0_3] 24 (0, 0)) (by (with_reducible repeat (first | refine blk_drewN ?_ _ | refine blk_drew ?_ | refine blk_alloc ?_ _)); exact BK369.out)) : gb369 ≠ gb370)); have n6_ := Aside0.mk ((by rw [hg]; exact Nat.ne_of_gt (blk_lt (g := gb369) (o := .cells #[.int .i64 a0_0, .slice A0_1 l0_1.length c0_1, .slice A0_2 l0_2.length c0_2, .bool a0_3] 24 (0, 0)) (by (with_reducible repeat (first | refine blk_drewN ?_ _ | refine blk_drew ?_ | refine blk_alloc ?_ _)); exact BK369.out)) : gb370 ≠ gb369)); clear BK369; clear HB; have BK369 := n0_; have HB := n1_; have BK370 := n2_; have GW370 := n3_; have GE370 := n4_; have NB369_370 := n5_; have NB370_369 := n6_; clear n0_ n1_ n2_ n3_ n4_ n5_ n6_; clear hb hbox hg; have hnb15 := NB370_369.out; have hnc15 := NB369_370.out; have hcz16_0 : w14.cell? ⟨gb370, 0, none⟩ = some (.int .i64 a1_0) := (blk_cell BK370.out 0).trans rfl; have hcz16_1 : w14.cell? ⟨gb370, 1, none⟩ = some (.int .i64 a1_1) := (blk_cell BK370.out 1).trans rfl; have hfz16_0 := blk_frozen BK370.out 0; have hfz16_1 := blk_frozen BK370.out 1; have hcz17_0 : w14.cell? ⟨gb369, 0, none⟩ = some (.int .i64 a0_0) := (blk_cell BK369.out 0).trans rfl; have hcz17_1 : w14.cell? ⟨gb369, 1, none⟩ = some (.slice A0_1 l0_1.length c0_1) := (blk_cell BK369.out 1).trans rfl; have hcz17_2 : w14.cell? ⟨gb369, 2, none⟩ = some (.slice A0_2 l0_2.length c0_2) := (blk_cell BK369.out 2).trans rfl; have hcz17_3 : w14.cell? ⟨gb369, 3, none⟩ = some (.bool a0_3) := (blk_cell BK369.out 3).trans rfl; have hfz17_0 := blk_frozen BK369.out 0; have hfz17_1 := blk_frozen BK369.out 1; have hfz17_2 := blk_frozen BK369.out 2; have hfz17_3 := blk_frozen BK369.out 3; have p372 : 0 ≤ (a1_1 : Int) := of_decide_eq_true (by first | (with_reducible assumption) | assumption); have q372 : a1_1 < (l0_2.length : Int) := of_decide_eq_true (by first | (with_reducible assumption) | assumption); obtain ⟨ad372, e372, hx372_0, hx372_1, hx372_2⟩ := at_T38 HR0_2.out a1_1 p372 q372; cases e372; replace hx372_0 := (HB.out.cell (World.block_lt_of_cell? w _ hx372_0)).trans hx372_0; replace hx372_1 := (HB.out.cell (World.block_lt_of_cell? w _ hx372_1)).trans hx372_1; replace hx372_2 := (HB.out.cell (World.block_lt_of_cell? w _ hx372_2)).trans hx372_2; replace p372 := eq_true p372; replace q372 := eq_true q372))
        go_ret
        exact ⟨by first | rfl | (simp [errW_none, errW_some] <;> rfl) | (simp [*, errW_none, errW_some] <;> rfl), by repeat (first | (with_reducible first | exact HB.out | apply below_alloc | apply pw_below_drewN | apply below_drew1 | refine below_set ?_ GE369.out | refine below_set ?_ GE370.out) | exact HB.out)⟩
      · rw [if_neg c12] at H
        exact absurd H (by simp)
    · rw [if_neg c11] at H
      exact absurd H (by simp)

end Go.Proofs.YtponmfnegdlppaaDoor.P

end
section
-- Written by a program of this session (wip/tools/hprint.py, over the kit's printer), not by hand. Lean checks it.
namespace Go.Proofs.YtponmfnegdlppaaDoor.P
open Go.RowKit Go.Proofs.YtponmfnegdlppaaDoorW.PrintWords Go.Proofs.YtponmfnegdlppaaDoorW.PrintLast Go.Proofs.YtponmfnegdlppaaDoorW.PrintMore
attribute [local go_sem] max2_int min2_int max_two min_two max_three min_three max_four min_four
set_option linter.unusedVariables false
set_option linter.unusedSimpArgs false

/-! ### winnowlaw19_sized: function 34 -/
def winnowlaw19_sized.f (a0_0 : Int) (l0_1 : List (S38)) (l0_2 : List (S38)) (a0_3 : Bool) (a1 : Int) (a2 : Int) : Option (Bool) := if (l0_1.length : Int) = a1 then (some ((l0_2.length : Int) == a2)) else (some false)
set_option maxHeartbeats 8000000 in
set_option maxRecDepth 100000 in
theorem winnowlaw19_sized.calls (a0_0 : Int) (A0_1 : Option Addr) (c0_1 : Nat) (l0_1 : List (S38)) (A0_2 : Option Addr) (c0_2 : Nat) (l0_2 : List (S38)) (a0_3 : Bool) (a1 : Int) (a2 : Int) (r : Bool) (w : World) (hr0_1 : Kd.C k38 w A0_1 l0_1.length l0_1) (hc0_1 : l0_1.length ≤ c0_1) (hr0_2 : Kd.C k38 w A0_2 l0_2.length l0_2) (hc0_2 : l0_2.length ≤ c0_2) (h : winnowlaw19_sized.f a0_0 l0_1 l0_2 a0_3 a1 a2 = some r) :
    Calls Tryd.prog 34 #[.agg #[.int .i64 a0_0, .slice A0_1 l0_1.length c0_1, .slice A0_2 l0_2.length c0_2, .bool a0_3], .int .i64 a1, .int .i64 a2] w fun e w' => e = .returned (.bool r) ∧ Below w.heap.size w w' := by
  have hu24 := Tryd.underlying24
  have HR0_1 := Aside0.mk hr0_1
  have HC0_1 := Aside0.mk hc0_1
  clear hr0_1 hc0_1
  have HR0_2 := Aside0.mk hr0_2
  have HC0_2 := Aside0.mk hc0_2
  clear hr0_2 hc0_2
  have HB := Aside0.mk (Below.refl w.heap.size w)
  have H : (if (l0_1.length : Int) = a1 then (some ((l0_2.length : Int) == a2)) else (some false)) = some r := h
  clear h
  by_cases c4 : (l0_1.length : Int) = a1
  · rw [if_pos c4] at H
    have c4b0 : ((l0_1.length : Int) == a1) = true := beq_iff_eq.mpr c4
    have c4b1 : ((l0_1.length : Int) != a1) = false := bne_eq_false_iff_eq.mpr c4
    clear c4
    obtain rfl := Option.some.inj H
    go_enter Tryd.func34, Tryd.ntmps34
    go_wp2_with (first | ((with_reducible refine gate_dst (N := 3) rfl ?_); (try (refine gate_guard (by rfl) ?_; dsimp only)); refine box_event ?hg (N := 3) ?hd (cs := #[.int .i64 a0_0, .slice A0_1 l0_1.length c0_1, .slice A0_2 l0_2.length c0_2, .bool a0_3]) (t := 24) ?hr ?_; (case hd => rfl); (case hg => rfl); (case hr => first | (go_simp; done) | (go_simp; rfl)); intro gb365 hg w5 hbox hb; have n0_ := Aside0.mk (below_step (by repeat (first | (with_reducible first | exact HB.out | apply below_alloc | apply pw_below_drewN | apply below_drew1) | exact HB.out)) hb); have n1_ := Aside0.mk (hbox); have n2_ := Aside0.mk ((by rw [hg]; exact (below_size (by repeat (first | (with_reducible first | exact HB.out | apply below_alloc | apply pw_below_drewN | apply below_drew1) | exact HB.out))) : w.heap.size ≤ gb365)); have n3_ := Aside0.mk ((by rw [hg]; exact (below_size (by repeat (first | (with_reducible first | exact HB.out | apply below_alloc | apply pw_below_drewN | apply below_drew1) | exact HB.out))) : w.heap.size ≤ gb365)); clear HB; have HB := n0_; have BK365 := n1_; have GW365 := n2_; have GE365 := n3_; clear n0_ n1_ n2_ n3_; clear hb hbox hg; have hcz6_0 : w5.cell? ⟨gb365, 0, none⟩ = some (.int .i64 a0_0) := (blk_cell BK365.out 0).trans rfl; have hcz6_1 : w5.cell? ⟨gb365, 1, none⟩ = some (.slice A0_1 l0_1.length c0_1) := (blk_cell BK365.out 1).trans rfl; have hcz6_2 : w5.cell? ⟨gb365, 2, none⟩ = some (.slice A0_2 l0_2.length c0_2) := (blk_cell BK365.out 2).trans rfl; have hcz6_3 : w5.cell? ⟨gb365, 3, none⟩ = some (.bool a0_3) := (blk_cell BK365.out 3).trans rfl; have hfz6_0 := blk_frozen BK365.out 0; have hfz6_1 := blk_frozen BK365.out 1; have hfz6_2 := blk_frozen BK365.out 2; have hfz6_3 := blk_frozen BK365.out 3))
    go_ret
    exact ⟨by first | rfl | (simp [errW_none, errW_some] <;> rfl) | (simp [*, errW_none, errW_some] <;> rfl), by repeat (first | (with_reducible first | exact HB.out | apply below_alloc | apply pw_below_drewN | apply below_drew1 | refine below_set ?_ GE365.out) | exact HB.out)⟩
  · rw [if_neg c4] at H
    have c4b0 : ((l0_1.length : Int) == a1) = false := beq_eq_false_iff_ne.mpr c4
    have c4b1 : ((l0_1.length : Int) != a1) = true := bne_iff_ne.mpr c4
    obtain rfl := Option.some.inj H
    go_enter Tryd.func34, Tryd.ntmps34
    go_wp2_with (first | ((with_reducible refine gate_dst (N := 3) rfl ?_); (try (refine gate_guard (by rfl) ?_; dsimp only)); refine box_event ?hg (N := 3) ?hd (cs := #[.int .i64 a0_0, .slice A0_1 l0_1.length c0_1, .slice A0_2 l0_2.length c0_2, .bool a0_3]) (t := 24) ?hr ?_; (case hd => rfl); (case hg => rfl); (case hr => first | (go_simp; done) | (go_simp; rfl)); intro gb365 hg w7 hbox hb; have n0_ := Aside0.mk (below_step (by repeat (first | (with_reducible first | exact HB.out | apply below_alloc | apply pw_below_drewN | apply below_drew1) | exact HB.out)) hb); have n1_ := Aside0.mk (hbox); have n2_ := Aside0.mk ((by rw [hg]; exact (below_size (by repeat (first | (with_reducible first | exact HB.out | apply below_alloc | apply pw_below_drewN | apply below_drew1) | exact HB.out))) : w.heap.size ≤ gb365)); have n3_ := Aside0.mk ((by rw [hg]; exact (below_size (by repeat (first | (with_reducible first | exact HB.out | apply below_alloc | apply pw_below_drewN | apply below_drew1) | exact HB.out))) : w.heap.size ≤ gb365)); clear HB; have HB := n0_; have BK365 := n1_; have GW365 := n2_; have GE365 := n3_; clear n0_ n1_ n2_ n3_; clear hb hbox hg; have hcz8_0 : w7.cell? ⟨gb365, 0, none⟩ = some (.int .i64 a0_0) := (blk_cell BK365.out 0).trans rfl; have hcz8_1 : w7.cell? ⟨gb365, 1, none⟩ = some (.slice A0_1 l0_1.length c0_1) := (blk_cell BK365.out 1).trans rfl; have hcz8_2 : w7.cell? ⟨gb365, 2, none⟩ = some (.slice A0_2 l0_2.length c0_2) := (blk_cell BK365.out 2).trans rfl; have hcz8_3 : w7.cell? ⟨gb365, 3, none⟩ = some (.bool a0_3) := (blk_cell BK365.out 3).trans rfl; have hfz8_0 := blk_frozen BK365.out 0; have hfz8_1 := blk_frozen BK365.out 1; have hfz8_2 := blk_frozen BK365.out 2; have hfz8_3 := blk_frozen BK365.out 3))
    go_ret
    exact ⟨by first | rfl | (simp [errW_none, errW_some] <;> rfl) | (simp [*, errW_none, errW_some] <;> rfl), by repeat (first | (with_reducible first | exact HB.out | apply below_alloc | apply pw_below_drewN | apply below_drew1 | refine below_set ?_ GE365.out) | exact HB.out)⟩

end Go.Proofs.YtponmfnegdlppaaDoor.P

end
section
/- The laid variable of the seat: its four cells. -/
namespace Go.Proofs.YtponmfnegdlppaaDoor.P
open Go.RowKit Go.Proofs.YtponmfnegdlppaaDoorW.PrintWords Go.Proofs.YtponmfnegdlppaaDoorW.PrintLast Go.Proofs.YtponmfnegdlppaaDoorW.PrintMore
theorem gSpent : Tryd.prog.globalNamed "winnow/ledger.spent" = some 0 := by kernel_rfl
theorem gSpentType : (Tryd.prog.globals[0]?).map (·.type) = some 70 := by kernel_rfl
theorem cells70 : Tryd.prog.cellsOf 70 = 4 := by kernel_rfl
theorem cells3 : Tryd.prog.cellsOf 3 = 1 := by kernel_rfl
/-- spent's cells -/
structure Tab (w : World) : Prop where
  c0 : w.cell? ⟨0, 0, none⟩ = some (.int .i64 0)
  c1 : w.cell? ⟨0, 1, none⟩ = some (.int .i64 1)
  c2 : w.cell? ⟨0, 2, none⟩ = some (.int .i64 1)
  c3 : w.cell? ⟨0, 3, none⟩ = some (.int .i64 1)
theorem table {W : World} (h : laidMetH Tryd.prog [("winnow/ledger.spent", Rows.laid_winnow_ledger_spent)] W) : Lib.TabIs Tryd.prog W "winnow/ledger.spent" .i64 [0, 1, 1, 1] :=
  Lib.tabIs_of_head (rest := []) gSpent gSpentType Tryd.underlying70 Tryd.underlying3 cells3 cells70 h
theorem tab_of_laid {W : World} (h : laidMetH Tryd.prog [("winnow/ledger.spent", Rows.laid_winnow_ledger_spent)] W) : Tab W :=
  ⟨(table h).cell gSpent 0 (by decide), (table h).cell gSpent 1 (by decide), (table h).cell gSpent 2 (by decide), (table h).cell gSpent 3 (by decide)⟩
theorem Tab.pos {w : World} (h : Tab w) : 0 < w.heap.size := World.block_lt_of_cell? w ⟨0, 0, none⟩ h.c0
theorem Tab.step {w w' : World} {b : Nat} (h : Tab w) (hb : Below b w w') (h0 : 0 < b) : Tab w' :=
  ⟨(hb.cell h0).trans h.c0, (hb.cell h0).trans h.c1, (hb.cell h0).trans h.c2, (hb.cell h0).trans h.c3⟩
theorem Tab.below {w w' : World} (h : Tab w) (hb : Below w.heap.size w w') : Tab w' := h.step hb h.pos
theorem Tab.drew {w : World} (h : Tab w) : Tab w.drew := ⟨h.c0, h.c1, h.c2, h.c3⟩
theorem Tab.drewN {w : World} {n : Nat} (h : Tab w) : Tab (w.drewN n) := h.below (pw_below_drewN (Below.refl _ _) _)
end Go.Proofs.YtponmfnegdlppaaDoor.P

end
section
/- What a walk knows of its memory, told as a list: boxes (blocks known whole) and rows of the call's own, each in blocks of a colour of its own. -/
namespace Go.Proofs.YtponmfnegdlppaaDoor.P
open Go.RowKit Go.Proofs.YtponmfnegdlppaaDoorW.PrintWords Go.Proofs.YtponmfnegdlppaaDoorW.PrintLast Go.Proofs.YtponmfnegdlppaaDoorW.PrintMore
set_option linter.unusedVariables false

def small (l0 l1 : List S38) : Prop := l0.length ≤ 6000000000000 ∧ l1.length ≤ 6000000000000
instance (l0 l1 : List S38) : Decidable (small l0 l1) := by unfold small; infer_instance
/-- a row of the call's own: its colour, its elements' kind and type, its value, its elements -/
structure It where
  c : Nat
  {α : Type}
  d : Kd α
  e : Nat
  v : Value
  l : List α
/-- a box: its block, its cells, its type -/
structure Bx where
  g : Nat
  cs : Array Value
  t : Nat
/-- The state: no block below w0's has changed; each box lies as told; each row lies in blocks of its colour. -/
def Env (w0 : World) (B : List Bx) (R : List It) (W : World) : Prop :=
  Below w0.heap.size w0 W ∧ (B.map (·.g)).Nodup ∧ (R.map (·.c)).Nodup ∧ ∃ col : Nat → Nat,
    (∀ b ∈ B, W.heap[b.g]? = some (.cells b.cs b.t (0, 0)) ∧ w0.heap.size ≤ b.g ∧ col b.g = 0) ∧
    ∀ r ∈ R, r.c ≠ 0 ∧ Kd.R r.d r.e W w0.heap.size (fun k => col k = r.c) r.v r.l
section
variable {w0 W W' : World} {B B' : List Bx} {R R' : List It}
theorem Env.out (h : Env w0 B R W) : Below w0.heap.size w0 W := h.1
theorem Env.size (h : Env w0 B R W) : w0.heap.size ≤ W.heap.size := h.1.size
theorem Env.start (w : World) : Env w [] [] w := ⟨Below.refl _ _, List.nodup_nil, List.nodup_nil, fun _ => 0, fun _ h => (List.not_mem_nil h).elim, fun _ h => (List.not_mem_nil h).elim⟩
theorem Env.below (h : Env w0 B R W) (hb : Below W.heap.size W W') : Env w0 B R W' := by
  obtain ⟨h1, h2, h3, col, hB, hR⟩ := h
  exact ⟨below_step h1 hb, h2, h3, col, fun b m => ⟨blk_below (hB b m).1 hb, (hB b m).2⟩, fun r m => ⟨(hR r m).1, Kd.R_below (hR r m).2 hb⟩⟩
theorem Env.drew (h : Env w0 B R W) : Env w0 B R W.drew := h.below (below_drew (Below.refl _ _))
theorem Env.drewN (h : Env w0 B R W) (n : Nat) : Env w0 B R (W.drewN n) := h.below (pw_below_drewN (Below.refl _ _) n)
/-- less is known -/
theorem Env.sub (h : Env w0 B R W) (hb : B'.Sublist B) (hr : R'.Sublist R) : Env w0 B' R' W := by
  obtain ⟨h1, h2, h3, col, hB, hR⟩ := h
  exact ⟨h1, h2.sublist (hb.map _), h3.sublist (hr.map _), col, fun b m => hB b (hb.subset m), fun r m => hR r (hr.subset m)⟩
/-- the rows in another order -/
theorem Env.rows (h : Env w0 B R W) (hs : ∀ r ∈ R', r ∈ R) (hn : (R'.map (·.c)).Nodup) : Env w0 B R' W := by
  obtain ⟨h1, h2, h3, col, hB, hR⟩ := h
  exact ⟨h1, h2, hn, col, hB, fun r m => hR r (hs r m)⟩
theorem Env.box (h : Env w0 B R W) {b : Bx} (m : b ∈ B) : W.heap[b.g]? = some (.cells b.cs b.t (0, 0)) := by
  obtain ⟨h1, h2, h3, col, hB, hR⟩ := h
  exact (hB b m).1
theorem Env.boxlt (h : Env w0 B R W) {b : Bx} (m : b ∈ B) : b.g < W.heap.size := blk_lt (h.box m)
theorem Env.cell (h : Env w0 B R W) {b : Bx} (m : b ∈ B) (i : Nat) : W.cell? ⟨b.g, i, none⟩ = b.cs[i]? := blk_cell (h.box m) i
theorem Env.frozen (h : Env w0 B R W) {b : Bx} (m : b ∈ B) (i : Nat) : W.frozen? ⟨b.g, i, none⟩ = false := blk_frozen (h.box m) i
theorem Env.read (h : Env w0 B R W) {α : Type} {c e n cp : Nat} {d : Kd α} {A : Option Addr} {l : List α} (m : (⟨c, d, e, .slice A n cp, l⟩ : It) ∈ R) : n = l.length ∧ n ≤ cp ∧ d.C W A l.length l := by
  obtain ⟨h1, h2, h3, col, hB, hR⟩ := h
  exact Kd.R_reads' (hR _ m).2
theorem Env.slice (h : Env w0 B R W) {α : Type} {c e : Nat} {d : Kd α} {v : Value} {l : List α} (m : (⟨c, d, e, v, l⟩ : It) ∈ R) : ∃ A cp, v = .slice A l.length cp := by
  obtain ⟨h1, h2, h3, col, hB, hR⟩ := h
  exact Kd.R_slice (hR _ m).2
theorem Env.at_ (h : Env w0 B R W) (n i : Nat) {g t : Nat} {cs : Array Value} {v : Value} (hn : B[n]? = some ⟨g, cs, t⟩) (hv : cs[i]? = some v) : W.cell? ⟨g, i, none⟩ = some v :=
  (h.cell (List.mem_of_getElem? hn) i).trans hv
theorem Env.fr_ (h : Env w0 B R W) (n i : Nat) {g t : Nat} {cs : Array Value} (hn : B[n]? = some ⟨g, cs, t⟩) : W.frozen? ⟨g, i, none⟩ = false := h.frozen (List.mem_of_getElem? hn) i
theorem Env.blk_ (h : Env w0 B R W) (n : Nat) {g t : Nat} {cs : Array Value} (hn : B[n]? = some ⟨g, cs, t⟩) : W.heap[g]? = some (.cells cs t (0, 0)) := h.box (List.mem_of_getElem? hn)
theorem Env.lt_ (h : Env w0 B R W) (n : Nat) {g t : Nat} {cs : Array Value} (hn : B[n]? = some ⟨g, cs, t⟩) : g < W.heap.size := h.boxlt (List.mem_of_getElem? hn)
/-- the n-th row -/
theorem Env.row_ (h : Env w0 B R W) (n : Nat) {α : Type} {c e m cp : Nat} {d : Kd α} {A : Option Addr} {l : List α} (hn : R[n]? = some (⟨c, d, e, .slice A m cp, l⟩ : It)) : d.C W A l.length l := (h.read (List.mem_of_getElem? hn)).2.2
theorem Env.cap_ (h : Env w0 B R W) (n : Nat) {α : Type} {c e m cp : Nat} {d : Kd α} {A : Option Addr} {l : List α} (hn : R[n]? = some (⟨c, d, e, .slice A m cp, l⟩ : It)) : m = l.length ∧ m ≤ cp := ⟨(h.read (List.mem_of_getElem? hn)).1, (h.read (List.mem_of_getElem? hn)).2.1⟩
theorem Env.own_ (h : Env w0 B R W) (n : Nat) {α : Type} {c e : Nat} {d : Kd α} {v : Value} {l : List α} (hn : R[n]? = some (⟨c, d, e, v, l⟩ : It)) : ∃ P : Nat → Prop, Kd.R d e W w0.heap.size P v l := by
  obtain ⟨h1, h2, h3, col, hB, hR⟩ := h
  exact ⟨_, (hR _ (List.mem_of_getElem? hn)).2⟩
/-- two rows, told apart -/
theorem Env.own2_ (h : Env w0 B R W) (n m : Nat) {α β : Type} {c c' e e' : Nat} {d : Kd α} {d' : Kd β} {v v' : Value} {l : List α} {l' : List β} (hn : R[n]? = some (⟨c, d, e, v, l⟩ : It)) (hm : R[m]? = some (⟨c', d', e', v', l'⟩ : It)) (hne : c ≠ c') :
    Kd.R d e W w0.heap.size (fun k => some k ≠ v'.ownBlock) v l ∧ Kd.R d' e' W w0.heap.size (fun k => some k ≠ v.ownBlock) v' l' := by
  obtain ⟨h1, h2, h3, col, hB, hR⟩ := h
  have q := (hR _ (List.mem_of_getElem? hn)).2
  have q' := (hR _ (List.mem_of_getElem? hm)).2
  exact ⟨Kd.R_mono q (fun k hk e => hne (hk.symm.trans (q'.1 k e.symm))), Kd.R_mono q' (fun k hk e => hne ((q.1 k e.symm).symm.trans hk))⟩
/-- a box is laid -/
theorem Env.push (h : Env w0 B R W) (cs : Array Value) (t : Nat) : Env w0 (⟨W.heap.size, cs, t⟩ :: B) R (W.alloc (.cells cs t)) := by
  have hb := below_alloc (Below.refl W.heap.size W) (.cells cs t)
  have hlt : ∀ b ∈ B, b.g < W.heap.size := fun b m => h.boxlt m
  obtain ⟨h1, h2, h3, col, hB, hR⟩ := h
  refine ⟨below_step h1 hb, ?_, h3, fun k => if k < W.heap.size then col k else 0, ?_, ?_⟩
  · rw [List.map_cons, List.nodup_cons]
    refine ⟨fun hm => ?_, h2⟩
    obtain ⟨b, m, e⟩ := List.mem_map.1 hm
    have h' := hlt b m
    rw [show b.g = W.heap.size from e] at h'
    omega
  · intro b m
    rcases List.mem_cons.1 m with rfl | m
    · exact ⟨heap_alloc_new W _, h1.size, if_neg (Nat.lt_irrefl _)⟩
    · exact ⟨blk_below (hB b m).1 hb, (hB b m).2.1, by dsimp only; rw [if_pos (hlt b m)]; exact (hB b m).2.2⟩
  · intro r m
    refine ⟨(hR r m).1, Kd.R_below (Kd.R_mono (Kd.R_bound (hR r m).2) (fun k hk => ?_)) hb⟩
    dsimp only
    rw [if_pos hk.2.2.1]
    exact hk.1
/-- the first box is written -/
theorem Env.set {g t : Nat} {cs : Array Value} (h : Env w0 (⟨g, cs, t⟩ :: B) R W) (i : Nat) (u : Value) : Env w0 (⟨g, cs.setIfInBounds i u, t⟩ :: B) R (W.setCell ⟨g, i, none⟩ u) := by
  obtain ⟨h1, h2, h3, col, hB, hR⟩ := h
  have h0 := hB _ (List.mem_cons_self ..)
  refine ⟨h1.setCell h0.2.1 _, h2, h3, col, ?_, ?_⟩
  · intro b m
    rcases List.mem_cons.1 m with rfl | m
    · exact ⟨blk_set h0.1 i u, h0.2⟩
    · have hb := hB b (List.mem_cons_of_mem _ m)
      rw [List.map_cons, List.nodup_cons] at h2
      exact ⟨blk_far hb.1 (p := ⟨g, i, none⟩) (fun e => h2.1 (List.mem_map.2 ⟨b, m, e⟩)) u, hb.2⟩
  · intro r m
    exact ⟨(hR r m).1, Kd.R_far (p := ⟨g, i, none⟩) (hR r m).2 (fun k hk e => (hR r m).1 (by rw [← hk, e]; exact h0.2.2)) u⟩
/-- two rows are new -/
theorem Env.rows2 (h : Env w0 B R W) (hb : Below W.heap.size W W') {α β : Type} {d1 : Kd α} {d2 : Kd β} {e1 e2 : Nat} {v1 v2 : Value} {l1 : List α} {l2 : List β} (hE : d1.E = [])
    (r1 : Kd.R d1 e1 W' W.heap.size (fun k => some k ≠ v2.ownBlock) v1 l1) (r2 : Kd.R d2 e2 W' W.heap.size (fun k => some k ≠ v1.ownBlock) v2 l2)
    (c1 c2 : Nat) (hc : (c1 :: c2 :: R.map (·.c)).Nodup) (n1 : c1 ≠ 0) (n2 : c2 ≠ 0) : Env w0 B (⟨c1, d1, e1, v1, l1⟩ :: ⟨c2, d2, e2, v2, l2⟩ :: R) W' := by
  have hlt : ∀ b ∈ B, b.g < W.heap.size := fun b m => h.boxlt m
  obtain ⟨h1, h2, h3, col, hB, hR⟩ := h
  refine ⟨below_step h1 hb, h2, hc, fun k => if k < W.heap.size then col k else if some k = v1.ownBlock then c1 else c2, ?_, ?_⟩
  · intro b m
    exact ⟨blk_below (hB b m).1 hb, (hB b m).2.1, by dsimp only; rw [if_pos (hlt b m)]; exact (hB b m).2.2⟩
  · intro r m
    rcases List.mem_cons.1 m with rfl | m
    · refine ⟨n1, Kd.R_lower (Kd.R_mono (Kd.R_bound (Kd.R_tight hE r1)) (fun k hk => ?_)) h1.size⟩
      dsimp only
      rw [if_neg (by have := hk.2.1; omega), if_pos hk.1]
    rcases List.mem_cons.1 m with rfl | m
    · refine ⟨n2, Kd.R_lower (Kd.R_mono (Kd.R_bound r2) (fun k hk => ?_)) h1.size⟩
      dsimp only
      rw [if_neg (by have := hk.2.1; omega), if_neg hk.1]
    · refine ⟨(hR r m).1, Kd.R_below (Kd.R_mono (Kd.R_bound (hR r m).2) (fun k hk => ?_)) hb⟩
      dsimp only
      rw [if_pos hk.2.2.1]
      exact hk.1
/-- one row is new -/
theorem Env.row1 (h : Env w0 B R W) (hb : Below W.heap.size W W') {α : Type} {d1 : Kd α} {e1 : Nat} {v1 : Value} {l1 : List α} {P : Nat → Prop} (r1 : Kd.R d1 e1 W' W.heap.size P v1 l1)
    (c1 : Nat) (hc : (c1 :: R.map (·.c)).Nodup) (n1 : c1 ≠ 0) : Env w0 B (⟨c1, d1, e1, v1, l1⟩ :: R) W' := by
  have hlt : ∀ b ∈ B, b.g < W.heap.size := fun b m => h.boxlt m
  obtain ⟨h1, h2, h3, col, hB, hR⟩ := h
  refine ⟨below_step h1 hb, h2, hc, fun k => if k < W.heap.size then col k else c1, ?_, ?_⟩
  · intro b m
    exact ⟨blk_below (hB b m).1 hb, (hB b m).2.1, by dsimp only; rw [if_pos (hlt b m)]; exact (hB b m).2.2⟩
  · intro r m
    rcases List.mem_cons.1 m with rfl | m
    · refine ⟨n1, Kd.R_lower (Kd.R_mono (Kd.R_bound r1) (fun k hk => ?_)) h1.size⟩
      dsimp only
      rw [if_neg (by have := hk.2.1; omega)]
    · refine ⟨(hR r m).1, Kd.R_below (Kd.R_mono (Kd.R_bound (hR r m).2) (fun k hk => ?_)) hb⟩
      dsimp only
      rw [if_pos hk.2.2.1]
      exact hk.1
/-- The first row is written (or grows): what a call is to be given, and what it gives back. -/
theorem Env.write {α : Type} {c e : Nat} {d : Kd α} {v : Value} {l : List α} (h : Env w0 B (⟨c, d, e, v, l⟩ :: R) W) : ∃ P : Nat → Prop, Kd.R d e W w0.heap.size P v l ∧
    ∀ (W' : World) (v' : Value) (l' : List α), Kept W W' P → Below w0.heap.size w0 W' → Kd.R d e W' w0.heap.size (fun k => P k ∨ W.heap.size ≤ k) v' l' → Env w0 B (⟨c, d, e, v', l'⟩ :: R) W' := by
  have hlt : ∀ b ∈ B, b.g < W.heap.size := fun b m => h.boxlt m
  obtain ⟨h1, h2, h3, col, hB, hR⟩ := h
  have h0 := hR _ (List.mem_cons_self ..)
  refine ⟨fun k => col k = c, h0.2, fun W' v' l' hk hb hr => ⟨hb, h2, h3, fun k => if k < W.heap.size then col k else c, ?_, ?_⟩⟩
  · intro b m
    have hb := hB b m
    exact ⟨blk_kept hb.1 hk (fun e => h0.1 (by rw [← e]; exact hb.2.2)), hb.2.1, by dsimp only; rw [if_pos (hlt b m)]; exact hb.2.2⟩
  · intro r m
    rcases List.mem_cons.1 m with rfl | m
    · refine ⟨h0.1, Kd.R_mono hr (fun k hk => ?_)⟩
      dsimp only
      rcases hk with hk | hk
      · split
        · exact hk
        · rfl
      · rw [if_neg (by omega)]
    · have hr := hR r (List.mem_cons_of_mem _ m)
      rw [List.map_cons, List.nodup_cons] at h3
      refine ⟨hr.1, Kd.R_kept (Kd.R_mono (Kd.R_bound hr.2) (ok' := fun k => (if k < W.heap.size then col k else c) = r.c ∧ k < W.heap.size) (fun k hk => ⟨by rw [if_pos hk.2.2.1]; exact hk.1, hk.2.2.1⟩)) hk (fun k hk e => ?_) |> fun q => Kd.R_mono q (fun k hk => hk.1)⟩
      have h4 := hk.1
      rw [if_pos hk.2, e] at h4
      exact h3.1 (List.mem_map.2 ⟨r, m, h4.symm⟩)
/-- the first row is cut -/
theorem Env.take {α : Type} {c e n cp m : Nat} {d : Kd α} {A : Option Addr} {l : List α} (h : Env w0 B (⟨c, d, e, .slice A n cp, l⟩ :: R) W) (hm : m ≤ l.length) : Env w0 B (⟨c, d, e, .slice A m cp, l.take m⟩ :: R) W := by
  obtain ⟨h1, h2, h3, col, hB, hR⟩ := h
  refine ⟨h1, h2, h3, col, hB, fun r q => ?_⟩
  rcases List.mem_cons.1 q with rfl | q
  · have h0 := hR _ (List.mem_cons_self ..)
    exact ⟨h0.1, Kd.R_take h0.2 hm⟩
  · exact hR r (List.mem_cons_of_mem _ q)
/-- the first two rows change places -/
theorem Env.swap {a b : It} (h : Env w0 B (a :: b :: R) W) : Env w0 B (b :: a :: R) W :=
  h.rows (fun r m => by
    rcases List.mem_cons.1 m with rfl | m
    · exact List.mem_cons_of_mem _ (List.mem_cons_self ..)
    rcases List.mem_cons.1 m with rfl | m
    · exact List.mem_cons_self ..
    · exact List.mem_cons_of_mem _ (List.mem_cons_of_mem _ m))
    (((List.Perm.swap b a R).map (·.c)).nodup_iff.1 h.2.2.1)
/-- the second row to the front -/
theorem Env.bswap {a b : Bx} (h : Env w0 (a :: b :: B) R W) : Env w0 (b :: a :: B) R W := by
  obtain ⟨h1, h2, h3, col, hB, hR⟩ := h
  refine ⟨h1, ((List.Perm.swap b a B).map (·.g)).nodup_iff.1 h2, h3, col, fun r m => hB r ?_, hR⟩
  rcases List.mem_cons.1 m with rfl | m
  · exact List.mem_cons_of_mem _ (List.mem_cons_self ..)
  rcases List.mem_cons.1 m with rfl | m
  · exact List.mem_cons_self ..
  · exact List.mem_cons_of_mem _ (List.mem_cons_of_mem _ m)
/-- Two rows are given away. -/
theorem Env.lose2 {a b : It} (h : Env w0 B (a :: b :: R) W) : ∃ P0 P1 : Nat → Prop, Kd.R a.d a.e W w0.heap.size P0 a.v a.l ∧ Kd.R b.d b.e W w0.heap.size P1 b.v b.l ∧ (∀ k, P0 k → ¬ P1 k) ∧
    ∀ W' : World, Kept W W' (fun k => P0 k ∨ P1 k) → Below w0.heap.size w0 W' → Env w0 B R W' := by
  obtain ⟨h1, h2, h3, col, hB, hR⟩ := h
  have ha := hR a (List.mem_cons_self ..)
  have hb := hR b (List.mem_cons_of_mem _ (List.mem_cons_self ..))
  rw [List.map_cons, List.map_cons, List.nodup_cons, List.nodup_cons] at h3
  refine ⟨fun k => col k = a.c, fun k => col k = b.c, ha.2, hb.2, fun k p q => h3.1 ?_, fun W' hk hw => ⟨hw, h2, h3.2.2, col, fun x m => ?_, fun r m => ?_⟩⟩
  · rw [← p, q]
    exact List.mem_cons_self ..
  · have hx := hB x m
    refine ⟨blk_kept hx.1 hk (fun e => ?_), hx.2⟩
    rcases e with e | e
    · exact ha.1 (by rw [← e]; exact hx.2.2)
    · exact hb.1 (by rw [← e]; exact hx.2.2)
  · have hr := hR r (List.mem_cons_of_mem _ (List.mem_cons_of_mem _ m))
    refine ⟨hr.1, Kd.R_kept hr.2 hk (fun k hk e => ?_)⟩
    rcases e with e | e
    · exact h3.1 (List.mem_cons_of_mem _ (List.mem_map.2 ⟨r, m, hk.symm.trans e⟩))
    · exact h3.2.1 (List.mem_map.2 ⟨r, m, hk.symm.trans e⟩)
/-- some of the rows, in an order of their own, by their places -/
theorem Env.pick (h : Env w0 B R W) (p : List Nat) (hn : ((p.filterMap (fun i => R[i]?)).map (·.c)).Nodup) : Env w0 B (p.filterMap (fun i => R[i]?)) W :=
  h.rows (fun r m => by
    obtain ⟨i, _, e⟩ := List.mem_filterMap.1 m
    exact List.mem_of_getElem? e) hn
theorem Env.bare (h : Env w0 B R W) : Env w0 B [] W := h.sub (List.Sublist.refl _) (List.nil_sublist _)
theorem Env.bare1 {b : Bx} (h : Env w0 (b :: B) R W) : Env w0 B [] W := h.sub (.cons _ (List.Sublist.refl _)) (List.nil_sublist _)
theorem Env.lose1 {a : It} (h : Env w0 B (a :: R) W) : Env w0 B R W := h.sub (List.Sublist.refl _) (.cons _ (List.Sublist.refl _))
theorem Env.tab (h : Env w0 B R W) (hT : Tab w0) : Tab W := hT.below h.1
theorem Env.came (h : Env w0 B R W) {α : Type} {d : Kd α} {A : Option Addr} {n : Nat} {l : List α} (hC : d.C w0 A n l) : d.C W A n l := Kd.C_below hC h.1
end
end Go.Proofs.YtponmfnegdlppaaDoor.P

end
section
/- What a run notes: a block of two tables of 16 times 17 bools and two numbers. -/
namespace Go.Proofs.YtponmfnegdlppaaDoor.P
open Go.RowKit Go.Proofs.YtponmfnegdlppaaDoorW.PrintWords Go.Proofs.YtponmfnegdlppaaDoorW.PrintLast Go.Proofs.YtponmfnegdlppaaDoorW.PrintMore
set_option linter.unusedVariables false
set_option linter.unusedSimpArgs false

def ncell (bg ch : Nat → Bool) (s c : Int) (i : Nat) : Value := if i < 272 then .bool (bg i) else if i < 544 then .bool (ch (i - 272)) else if i = 544 then .int .i64 s else .int .i64 c
def ncells (bg ch : Nat → Bool) (s c : Int) : Array Value := Array.ofFn (n := 546) fun i => ncell bg ch s c i
def upd (f : Nat → Bool) (i : Nat) : Nat → Bool := fun j => if j = i then true else f j
theorem ncells_get (bg ch : Nat → Bool) (s c : Int) (i : Nat) (h : i < 546) : (ncells bg ch s c)[i]? = some (ncell bg ch s c i) := by
  unfold ncells
  rw [Array.getElem?_ofFn, dif_pos h]
theorem ncells_bg (bg ch : Nat → Bool) (s c : Int) (i : Nat) (h : i < 272) : (ncells bg ch s c)[i]? = some (.bool (bg i)) := by
  rw [ncells_get _ _ _ _ _ (by omega)]
  unfold ncell
  rw [if_pos h]
theorem ncells_ch (bg ch : Nat → Bool) (s c : Int) (i : Nat) (h : i < 272) : (ncells bg ch s c)[272 + i]? = some (.bool (ch i)) := by
  rw [ncells_get _ _ _ _ _ (by omega)]
  unfold ncell
  rw [if_neg (by omega), if_pos (by omega), Nat.add_sub_cancel_left]
theorem ncells_s (bg ch : Nat → Bool) (s c : Int) : (ncells bg ch s c)[544]? = some (.int .i64 s) := by
  rw [ncells_get _ _ _ _ _ (by omega)]
  rfl
theorem ncells_c (bg ch : Nat → Bool) (s c : Int) : (ncells bg ch s c)[545]? = some (.int .i64 c) := by
  rw [ncells_get _ _ _ _ _ (by omega)]
  rfl
theorem ncells_set (bg ch bg' ch' : Nat → Bool) (s c s' c' : Int) (i : Nat) (v : Value) (hv : ncell bg' ch' s' c' i = v) (h : ∀ j, j < 546 → j ≠ i → ncell bg' ch' s' c' j = ncell bg ch s c j) :
    (ncells bg ch s c).setIfInBounds i v = ncells bg' ch' s' c' := by
  apply Array.ext_getElem?
  intro j
  rw [Array.getElem?_setIfInBounds]
  by_cases hj : j < 546
  · rw [ncells_get _ _ _ _ _ hj, ncells_get _ _ _ _ _ hj]
    by_cases e : i = j
    · subst e
      rw [if_pos rfl, if_pos (by unfold ncells; rw [Array.size_ofFn]; exact hj), hv]
    · rw [if_neg e, h j hj (fun q => e q.symm)]
  · have z : ∀ (b d : Nat → Bool) (x y : Int), (ncells b d x y)[j]? = none := fun b d x y => Array.getElem?_eq_none (by unfold ncells; rw [Array.size_ofFn]; omega)
    rw [z, z]
    split
    · rw [if_neg (by unfold ncells; rw [Array.size_ofFn]; omega)]
    · rfl
theorem ncells_set_bg (bg ch : Nat → Bool) (s c : Int) (i : Nat) (h : i < 272) : (ncells bg ch s c).setIfInBounds i (.bool true) = ncells (upd bg i) ch s c := by
  refine ncells_set _ _ _ _ _ _ _ _ _ _ ?_ (fun j hj hne => ?_)
  · unfold ncell upd; rw [if_pos h, if_pos rfl]
  · unfold ncell upd; rw [if_neg hne]
theorem ncells_set_ch (bg ch : Nat → Bool) (s c : Int) (i : Nat) (h : i < 272) : (ncells bg ch s c).setIfInBounds (272 + i) (.bool true) = ncells bg (upd ch i) s c := by
  refine ncells_set _ _ _ _ _ _ _ _ _ _ ?_ (fun j hj hne => ?_)
  · unfold ncell upd; rw [if_neg (by omega), if_pos (by omega), if_pos (by omega)]
  · unfold ncell upd
    by_cases h1 : j < 272
    · rw [if_pos h1, if_pos h1]
    · rw [if_neg h1, if_neg h1]
      by_cases h2 : j < 544
      · rw [if_pos h2, if_pos h2, if_neg (by omega)]
      · rw [if_neg h2, if_neg h2]
theorem ncells_set_s (bg ch : Nat → Bool) (s c s' : Int) : (ncells bg ch s c).setIfInBounds 544 (.int .i64 s') = ncells bg ch s' c := by
  refine ncells_set _ _ _ _ _ _ _ _ _ _ rfl (fun j hj hne => ?_)
  unfold ncell
  rw [if_neg hne]
  rw [if_neg hne]
theorem ncells_set_c (bg ch : Nat → Bool) (s c c' : Int) : (ncells bg ch s c).setIfInBounds 545 (.int .i64 c') = ncells bg ch s c' := by
  refine ncells_set _ _ _ _ _ _ _ _ _ _ rfl (fun j hj hne => ?_)
  unfold ncell
  by_cases h1 : j < 272
  · rw [if_pos h1, if_pos h1]
  · rw [if_neg h1, if_neg h1]
    by_cases h2 : j < 544
    · rw [if_pos h2, if_pos h2]
    · rw [if_neg h2, if_neg h2, if_pos (by omega), if_pos (by omega)]
/-- the rows' colours in other words -/
theorem Env.rename {w0 W : World} {B : List Bx} {R : List It} (h : Env w0 B R W) (f : Nat → Nat) (hf : ∀ a b, f a = f b → a = b) (h0 : f 0 = 0) : Env w0 B (R.map (fun r => { r with c := f r.c })) W := by
  obtain ⟨h1, h2, h3, col, hB, hR⟩ := h
  refine ⟨h1, h2, ?_, fun k => f (col k), fun b m => ⟨(hB b m).1, (hB b m).2.1, by dsimp only; rw [(hB b m).2.2, h0]⟩, fun r m => ?_⟩
  · rw [List.map_map]
    have : (List.map ((fun r : It => r.c) ∘ fun r => { r with c := f r.c }) R) = (R.map (·.c)).map f := by rw [List.map_map]; rfl
    rw [this]
    exact List.Pairwise.map f (fun a b hab e => hab (hf a b e)) h3
  · obtain ⟨r0, m0, rfl⟩ := List.mem_map.1 m
    have q := hR r0 m0
    exact ⟨fun e => q.1 (hf _ _ (by rw [h0]; exact e)), Kd.R_mono q.2 (fun k hk => by dsimp only; rw [hk])⟩
/-- two colours change places -/
def swapc (a b : Nat) (x : Nat) : Nat := if x = a then b else if x = b then a else x
theorem swapc_inj (a b : Nat) : ∀ x y, swapc a b x = swapc a b y → x = y := by
  intro x y h
  unfold swapc at h
  repeat' split at h
  all_goals omega
end Go.Proofs.YtponmfnegdlppaaDoor.P

end
section
/- The ledger's answers in plain lists. -/
namespace Go.Proofs.YtponmfnegdlppaaDoor.P
open Go.RowKit Go.Proofs.YtponmfnegdlppaaDoorW.PrintWords Go.Proofs.YtponmfnegdlppaaDoorW.PrintLast Go.Proofs.YtponmfnegdlppaaDoorW.PrintMore
set_option linter.unusedVariables false

/-- may a task's state be? -/
def goodP (t : Int) (held : Bool) (s : S38) : Bool :=
  !(decide (s.f0 < 0)) && (!(decide (4 ≤ s.f0)) && ((held || !(decide (s.f0 = 2))) && (!(decide (s.f2 < 0)) && (!(decide (t < s.f2)) && (decide (s.f1 = s.f2 + (if s.f0 = 0 then 0 else 1)) && (!(decide (s.f2 = t)) || decide (s.f0 = 0)))))))
def scanP (t : Int) (held : Bool) : List S38 → Int → Option Int
  | [], f => some f
  | s :: l, f => if goodP t held s = true then scanP t held l (if s.f2 = t then f + 1 else f) else none
def finP (fl : Bool) (f : Int) : Int := if 1 < f ∨ fl ≠ decide (f = 1) then 190 else 0
def scan1 (t : Int) (l1 : List S38) (fl : Bool) (f : Int) : Int := match scanP t true l1 f with
  | none => 190
  | some f => finP fl f
def scan0 (t : Int) (l0 l1 : List S38) (fl : Bool) (f : Int) : Int := match scanP t false l0 f with
  | none => 190
  | some f => scan1 t l1 fl f
def checkP (t : Int) (l0 l1 : List S38) (fl : Bool) : Int :=
  if t < 1 then 190 else if 16 < t then 190 else if 256 < l0.length then 190 else if l1.length < 1 then 190 else if 65535 < l1.length then 190 else scan0 t l0 l1 fl 0
theorem rd38 (l : List S38) (i : Nat) (h : i < l.length) : rd_T38 l (i : Int) = l[i] := by
  unfold rd_T38
  rw [Int.toNat_natCast, List.getD_eq_getElem?_getD, List.getElem?_eq_getElem h]
  rfl
theorem drop38 (l : List S38) (i : Nat) (h : i < l.length) : l.drop i = rd_T38 l (i : Int) :: l.drop (i + 1) := by
  rw [rd38 l i h]
  exact List.drop_eq_getElem_cons h
end Go.Proofs.YtponmfnegdlppaaDoor.P

end
section
/- ledger.Check, by hand (printed by HCheck.gen.py). -/
namespace Go.Proofs.YtponmfnegdlppaaDoor.P
open Go.RowKit Go.Proofs.YtponmfnegdlppaaDoorW.PrintWords Go.Proofs.YtponmfnegdlppaaDoorW.PrintLast Go.Proofs.YtponmfnegdlppaaDoorW.PrintMore
set_option linter.unusedVariables false
set_option linter.unusedSimpArgs false

/-- a book's box -/
def bookAt (w : World) (g : Nat) (t : Int) (u0 u1 : Value) (fl : Bool) : Prop := w.heap[g]? = some (.cells #[.int .i64 t, u0, u1, .bool fl] 24 (0, 0))
section
variable {w : World} {g : Nat} {t : Int} {u0 u1 : Value} {fl : Bool}
theorem bookAt.c0 (h : bookAt w g t u0 u1 fl) : w.cell? ⟨g, 0, none⟩ = some (.int .i64 t) := by rw [cell_of_row _ _ _ _ _ _ h]; rfl
theorem bookAt.c1 (h : bookAt w g t u0 u1 fl) : w.cell? ⟨g, 1, none⟩ = some u0 := by rw [cell_of_row _ _ _ _ _ _ h]; rfl
theorem bookAt.c2 (h : bookAt w g t u0 u1 fl) : w.cell? ⟨g, 2, none⟩ = some u1 := by rw [cell_of_row _ _ _ _ _ _ h]; rfl
theorem bookAt.c3 (h : bookAt w g t u0 u1 fl) : w.cell? ⟨g, 3, none⟩ = some (.bool fl) := by rw [cell_of_row _ _ _ _ _ _ h]; rfl
theorem bookAt.lt (h : bookAt w g t u0 u1 fl) : g < w.heap.size := (Array.getElem?_eq_some_iff.1 h).1
theorem bookAt.below {w' : World} {b : Nat} (h : bookAt w g t u0 u1 fl) (hb : Below b w w') (hg : g < b) : bookAt w' g t u0 u1 fl := (hb.block _ hg).trans h
end
theorem ix0 (A : Option Addr) (n c : Nat) (B : Option Addr) (m d : Nat) (w : World) : Sem.run Tryd.prog (Instr.index 69 (Value.agg #[.slice A n c, .slice B m d]) (Value.int .i64 0)) w = .ok (.slice A n c) w := by kernel_rfl
theorem ix1 (A : Option Addr) (n c : Nat) (B : Option Addr) (m d : Nat) (w : World) : Sem.run Tryd.prog (Instr.index 69 (Value.agg #[.slice A n c, .slice B m d]) (Value.int .i64 1)) w = .ok (.slice B m d) w := by kernel_rfl
/-- a new task's cells behind the world -/
def world38 (w : World) (s : S38) : World := (((w.alloc (.cells #[.int .i64 0, .int .i64 0, .int .i64 0] 38)).setCell ⟨w.heap.size, 0, none⟩ (.int .i64 s.f0)).setCell ⟨w.heap.size, 1, none⟩ (.int .i64 s.f1)).setCell ⟨w.heap.size, 2, none⟩ (.int .i64 s.f2)

set_option maxHeartbeats 4000000 in
set_option maxRecDepth 100000 in
theorem check_any (t : Int) (fl : Bool) (A0 : Option Addr) (c0 : Nat) (l0 : List S38) (A1 : Option Addr) (c1 : Nat) (l1 : List S38) (w : World) (h0 : Kd.C k38 w A0 l0.length l0) (h1 : Kd.C k38 w A1 l1.length l1) (hT : Tab w) :
    Calls Tryd.prog 15 #[.agg #[.int .i64 t, .slice A0 l0.length c0, .slice A1 l1.length c1, .bool fl]] w fun e w' => e = .returned (.int .i64 (checkP t l0 l1 fl)) ∧ Below w.heap.size w w' := by
  have HT := Aside0.mk hT
  have H0 := Aside0.mk h0
  have H1 := Aside0.mk h1
  obtain ⟨r, hr⟩ : ∃ r, checkP t l0 l1 fl = r := ⟨_, rfl⟩
  rw [hr]
  clear hT h0 h1
  unfold checkP at hr
  have hbk : bookAt (w.alloc (.cells #[.int .i64 t, .slice A0 l0.length c0, .slice A1 l1.length c1, .bool fl] 24)) w.heap.size t (.slice A0 l0.length c0) (.slice A1 l1.length c1) fl := heap_alloc_new w _
  have hba : Below w.heap.size w (w.alloc (.cells #[.int .i64 t, .slice A0 l0.length c0, .slice A1 l1.length c1, .bool fl] 24)) := below_alloc (Below.refl _ _) _
  generalize hn0 : l0.length = n0 at *
  generalize hn1 : l1.length = n1 at *
  have HN0 := Aside0.mk hn0
  have HN1 := Aside0.mk hn1
  have HBK := Aside0.mk hbk
  have HBA := Aside0.mk hba
  have HR := Aside0.mk hr
  clear hn0 hn1 hbk hba hr
  have hu22 := Tryd.underlying22
  have hu38 := Tryd.underlying38
  have hu24 := Tryd.underlying24
  have hu69 := Tryd.underlying69
  have hu70 := Tryd.underlying70
  by_cases k1 : t < 1
  · have hr := HR.out
    rw [if_pos k1] at hr
    subst hr
    have dk1 : decide (t < 1) = true := decide_eq_true k1
    have hx0 := HBK.out.c0
    have hx1 := HBK.out.c1
    have hx2 := HBK.out.c2
    go_enter Tryd.func15, Tryd.ntmps15
    go_wp2_with fail
    go_ret
    exact ⟨rfl, HBA.out⟩
  have dk1 : decide (t < 1) = false := decide_eq_false k1
  by_cases k2 : 16 < t
  · have hr := HR.out
    rw [if_neg k1] at hr; rw [if_pos k2] at hr
    subst hr
    have dk2 : decide (16 < t) = true := decide_eq_true k2
    have hx0 := HBK.out.c0
    have hx1 := HBK.out.c1
    have hx2 := HBK.out.c2
    go_enter Tryd.func15, Tryd.ntmps15
    go_wp2_with fail
    go_ret
    exact ⟨rfl, HBA.out⟩
  have dk2 : decide (16 < t) = false := decide_eq_false k2
  by_cases k3 : 256 < n0
  · have hr := HR.out
    rw [if_neg k1] at hr; rw [if_neg k2] at hr; rw [if_pos k3] at hr
    subst hr
    have dk3 : decide (256 < n0) = true := decide_eq_true k3
    have ek3 : decide ((256 : Int) < (n0 : Int)) = true := decide_eq_true (by omega)
    have hx0 := HBK.out.c0
    have hx1 := HBK.out.c1
    have hx2 := HBK.out.c2
    go_enter Tryd.func15, Tryd.ntmps15
    go_wp2_with fail
    go_ret
    exact ⟨rfl, HBA.out⟩
  have dk3 : decide (256 < n0) = false := decide_eq_false k3
  have ek3 : decide ((256 : Int) < (n0 : Int)) = false := decide_eq_false (by omega)
  by_cases k4 : n1 < 1
  · have hr := HR.out
    rw [if_neg k1] at hr; rw [if_neg k2] at hr; rw [if_neg k3] at hr; rw [if_pos k4] at hr
    subst hr
    have dk4 : decide (n1 < 1) = true := decide_eq_true k4
    have ek4 : decide ((n1 : Int) < 1) = true := decide_eq_true (by omega)
    have hx0 := HBK.out.c0
    have hx1 := HBK.out.c1
    have hx2 := HBK.out.c2
    go_enter Tryd.func15, Tryd.ntmps15
    go_wp2_with fail
    go_ret
    exact ⟨rfl, HBA.out⟩
  have dk4 : decide (n1 < 1) = false := decide_eq_false k4
  have ek4 : decide ((n1 : Int) < 1) = false := decide_eq_false (by omega)
  by_cases k5 : 65535 < n1
  · have hr := HR.out
    rw [if_neg k1] at hr; rw [if_neg k2] at hr; rw [if_neg k3] at hr; rw [if_neg k4] at hr; rw [if_pos k5] at hr
    subst hr
    have dk5 : decide (65535 < n1) = true := decide_eq_true k5
    have ek5 : decide ((65535 : Int) < (n1 : Int)) = true := decide_eq_true (by omega)
    have hx0 := HBK.out.c0
    have hx1 := HBK.out.c1
    have hx2 := HBK.out.c2
    go_enter Tryd.func15, Tryd.ntmps15
    go_wp2_with fail
    go_ret
    exact ⟨rfl, HBA.out⟩
  have dk5 : decide (65535 < n1) = false := decide_eq_false k5
  have ek5 : decide ((65535 : Int) < (n1 : Int)) = false := decide_eq_false (by omega)
  have hr := HR.out
  rw [if_neg k1, if_neg k2, if_neg k3, if_neg k4, if_neg k5] at hr
  clear HR
  have HR := Aside0.mk hr
  clear hr
  have ht1' : 1 ≤ t := by omega
  have ht2' : t ≤ 16 := by omega
  have hb0 : (n0 : Int) ≤ 256 := by omega
  have hb1 : (n1 : Int) ≤ 65535 := by omega
  have hx0 := HBK.out.c0
  have hx1 := HBK.out.c1
  have hx2 := HBK.out.c2
  go_enter Tryd.func15, Tryd.ntmps15
  go_wp2_with fail
  generalize w.alloc (.cells #[.int .i64 t, .slice A0 n0 c0, .slice A1 n1 c1, .bool fl] 24) = W1 at HBK HBA hx0 hx1 hx2 ⊢
  clear hx0 hx1 hx2 dk1 dk2 dk3 dk4 dk5 ek3 ek4 ek5 k1 k2 k3 k4 k5
  go_loopw [3, 39] (fun vf vo wr => ∃ f : Int, vf = .int .i64 f ∧ 0 ≤ f ∧ f ≤ 65535 * 2 ∧ ((vo = .int .i64 0 ∧ f = 0 ∧ Aside0 (scan0 t l0 l1 fl f = r)) ∨ (vo = .int .i64 1 ∧ f ≤ 256 ∧ Aside0 (scan1 t l1 fl f = r)) ∨ (vo = .int .i64 2 ∧ Aside0 (finP fl f = r))) ∧ Aside0 (bookAt wr w.heap.size t (.slice A0 n0 c0) (.slice A1 n1 c1) fl) ∧ Aside0 (Below w.heap.size w wr)) (fun _ vo _ => 2 - (intOf vo).toNat)
  case atStart => exact ⟨0, rfl, by omega, by omega, .inl ⟨rfl, rfl, HR⟩, HBK, HBA⟩
  case round =>
    clear HR HBK HBA
    obtain ⟨f, rfl, hf0, hf1, ho, HBK, HBA⟩ := hrel
    rcases ho with ⟨rfl, rfl, HR⟩ | ⟨rfl, hf2, HR⟩ | ⟨rfl, HR⟩
    · have hix := ix0 A0 n0 c0 A1 n1 c1
      go_wp2_with fail
      clear hix
      go_loopw [3, 45] (fun vf vi wr => ∃ (i : Nat) (f : Int), i ≤ n0 ∧ vf = .int .i64 f ∧ vi = .int .i64 i ∧ 0 ≤ f ∧ f ≤ 0 + i ∧ Aside0 ((match scanP t false (l0.drop i) f with | none => 190 | some f2 => scan1 t l1 fl f2) = r) ∧ Aside0 (bookAt wr w.heap.size t (.slice A0 n0 c0) (.slice A1 n1 c1) fl) ∧ Aside0 (Below w.heap.size w wr)) (fun _ vi _ => n0 - (intOf vi).toNat)
      case atStart => exact ⟨0, _, by omega, rfl, rfl, by omega, by omega, by rw [List.drop_zero]; exact HR, HBK, HBA⟩
      case round =>
        clear HR HBK HBA
        obtain ⟨i, f, hi, rfl, rfl, hf0, hf1, HR, HBK, HBA⟩ := hrel
        by_cases hlt : i < n0
        · have hd1 : decide ((i : Int) < (n0 : Int)) = true := by simp; omega
          have hd2 : decide (i < n0) = true := by simp; omega
          have hr := HR.out
          have hil : i < l0.length := by have := HN0.out; omega
          rw [drop38 l0 i hil] at hr
          obtain ⟨ad, e, hx0, hx1, hx2⟩ := at_T38 H0.out (i : Int) (by omega) (by have := HN0.out; omega)
          subst e
          generalize rd_T38 l0 (i : Int) = s at *
          rw [Int.toNat_natCast] at hx0 hx1 hx2
          replace hx0 := (HBA.out.cell (World.block_lt_of_cell? w _ hx0)).trans hx0
          replace hx1 := (HBA.out.cell (World.block_lt_of_cell? w _ hx1)).trans hx1
          replace hx2 := (HBA.out.cell (World.block_lt_of_cell? w _ hx2)).trans hx2
          have HS := Aside0.mk hr
          clear hr
          go_wp2_with fail
          clear hx0 hx1 hx2
          obtain ⟨sa, sb, sc⟩ := s
          dsimp only at *
          have hbk := HBK.out
          have hba := HBA.out
          have hya := below_alloc (Below.refl wr.heap.size wr) (.cells #[.int .i64 sa, .int .i64 sb, .int .i64 sc] 38)
          have hyr := heap_alloc_new wr (.cells #[.int .i64 sa, .int .i64 sb, .int .i64 sc] 38)
          have HB2 := Aside0.mk (hbk.below hya hbk.lt)
          have HA2 := Aside0.mk (below_step hba hya)
          generalize wr.alloc (.cells #[.int .i64 sa, .int .i64 sb, .int .i64 sc] 38) = W2 at hya hyr HB2 HA2 ⊢
          have hy0 : W2.cell? ⟨wr.heap.size, 0, none⟩ = some (.int .i64 sa) := by rw [cell_of_row _ _ _ _ _ _ hyr]; rfl
          have hy1 : W2.cell? ⟨wr.heap.size, 1, none⟩ = some (.int .i64 sb) := by rw [cell_of_row _ _ _ _ _ _ hyr]; rfl
          have hy2 : W2.cell? ⟨wr.heap.size, 2, none⟩ = some (.int .i64 sc) := by rw [cell_of_row _ _ _ _ _ _ hyr]; rfl
          have hz0 := HB2.out.c0
          have HT2 := HT.out.below HA2.out
          have ht0 := HT2.c0
          have ht1 := HT2.c1
          have ht2 := HT2.c2
          have ht3 := HT2.c3
          clear hya hyr hbk hba HT2 HBK HBA
          by_cases b1 : sa < 0
          · have d1 : decide (sa < 0) = true := decide_eq_true (by omega)
            have hr := HS.out
            have hg : goodP t false ⟨sa, sb, sc⟩ = false := by simp [goodP]; omega
            rw [scanP, if_neg (by rw [hg]; decide)] at hr
            subst hr
            clear HS hg
            go_quiet (fail)
            go_wp2_with fail
            go_ret
            exact ⟨rfl, by repeat (first | exact HA2.out | apply pw_below_drewN | apply below_drew1)⟩
          have d1 : decide (sa < 0) = false := decide_eq_false (by omega)
          by_cases b2 : 4 ≤ sa
          · have d2 : decide (4 ≤ sa) = true := decide_eq_true (by omega)
            have hr := HS.out
            have hg : goodP t false ⟨sa, sb, sc⟩ = false := by simp [goodP]; omega
            rw [scanP, if_neg (by rw [hg]; decide)] at hr
            subst hr
            clear HS hg
            go_quiet (fail)
            go_wp2_with fail
            go_ret
            exact ⟨rfl, by repeat (first | exact HA2.out | apply pw_below_drewN | apply below_drew1)⟩
          have d2 : decide (4 ≤ sa) = false := decide_eq_false (by omega)
          by_cases b3 : sa = 2
          · have d3 : (sa == 2) = true := by simp; omega
            have hr := HS.out
            have hg : goodP t false ⟨sa, sb, sc⟩ = false := by simp [goodP]; omega
            rw [scanP, if_neg (by rw [hg]; decide)] at hr
            subst hr
            clear HS hg
            go_quiet (fail)
            go_wp2_with fail
            go_ret
            exact ⟨rfl, by repeat (first | exact HA2.out | apply pw_below_drewN | apply below_drew1)⟩
          have d3 : (sa == 2) = false := by simp; omega
          by_cases b4 : sc < 0
          · have d4 : decide (sc < 0) = true := decide_eq_true (by omega)
            have hr := HS.out
            have hg : goodP t false ⟨sa, sb, sc⟩ = false := by simp [goodP]; omega
            rw [scanP, if_neg (by rw [hg]; decide)] at hr
            subst hr
            clear HS hg
            go_quiet (fail)
            go_wp2_with fail
            go_ret
            exact ⟨rfl, by repeat (first | exact HA2.out | apply pw_below_drewN | apply below_drew1)⟩
          have d4 : decide (sc < 0) = false := decide_eq_false (by omega)
          by_cases b5 : t < sc
          · have d5 : decide (t < sc) = true := decide_eq_true (by omega)
            have hr := HS.out
            have hg : goodP t false ⟨sa, sb, sc⟩ = false := by simp [goodP]; omega
            rw [scanP, if_neg (by rw [hg]; decide)] at hr
            subst hr
            clear HS hg
            go_quiet (fail)
            go_wp2_with fail
            go_ret
            exact ⟨rfl, by repeat (first | exact HA2.out | apply pw_below_drewN | apply below_drew1)⟩
          have d5 : decide (t < sc) = false := decide_eq_false (by omega)
          have hv : sa = 0 ∨ sa = 1 ∨ sa = 3 := by omega
          rcases hv with rfl | rfl | rfl
          · have hw : wrap64 (sc + 0) = sc + 0 := by unfold wrap64; omega
            have hw2 : IntKind.i64.wrap (sc + 0) = sc + 0 := by rw [i64_w]; exact hw
            by_cases b6 : sb = sc + 0
            · subst b6
              go_quiet (fail)
              by_cases b7 : sc = t
              · have d7 : (sc == t) = true := by simp; omega
                have hr := HS.out
                have hg : goodP t false ⟨0, sc + 0, sc⟩ = true := by simp [goodP]; omega
                rw [scanP, if_pos hg, if_pos b7] at hr
                have HR2 := Aside0.mk hr
                clear hr hg HS
                have hw3 : IntKind.i64.wrap (f + 1) = f + 1 := by rw [i64_w]; unfold wrap64; omega
                go_wp2_with fail
                go_roundw
                case rel => exact ⟨i + 1, f + 1, by omega, by first | rfl | go_num, by go_num, by omega, by omega, HR2, ⟨HB2.out.below (pw_below_drewN (Below.refl _ _) _) HB2.out.lt⟩, ⟨by repeat (first | exact HA2.out | apply pw_below_drewN | apply below_drew1)⟩⟩
                case measure => simp [intOf]; omega
              · have d7 : (sc == t) = false := by simp; omega
                have hr := HS.out
                have hg : goodP t false ⟨0, sc + 0, sc⟩ = true := by simp [goodP]; omega
                rw [scanP, if_pos hg, if_neg b7] at hr
                have HR2 := Aside0.mk hr
                clear hr hg HS
                go_wp2_with fail
                go_roundw
                case rel => exact ⟨i + 1, f, by omega, by first | rfl | go_num, by go_num, by omega, by omega, HR2, ⟨HB2.out.below (pw_below_drewN (Below.refl _ _) _) HB2.out.lt⟩, ⟨by repeat (first | exact HA2.out | apply pw_below_drewN | apply below_drew1)⟩⟩
                case measure => simp [intOf]; omega
            · have d6 : (sb != sc + 0) = true := by simp; omega
              have d6b : (sb == sc + 0) = false := by simp; omega
              have hr := HS.out
              have hg : goodP t false ⟨0, sb, sc⟩ = false := by simp [goodP]; omega
              rw [scanP, if_neg (by rw [hg]; decide)] at hr
              subst hr
              clear HS hg
              go_quiet (fail)
              go_wp2_with fail
              go_ret
              exact ⟨rfl, by repeat (first | exact HA2.out | apply pw_below_drewN | apply below_drew1)⟩
          · have hw : wrap64 (sc + 1) = sc + 1 := by unfold wrap64; omega
            have hw2 : IntKind.i64.wrap (sc + 1) = sc + 1 := by rw [i64_w]; exact hw
            by_cases b6 : sb = sc + 1
            · subst b6
              go_quiet (fail)
              by_cases b7 : sc = t
              · have d7 : (sc == t) = true := by simp; omega
                have hr := HS.out
                have hg : goodP t false ⟨1, sc + 1, sc⟩ = false := by simp [goodP]; omega
                rw [scanP, if_neg (by rw [hg]; decide)] at hr
                subst hr
                clear HS hg
                have hw3 : IntKind.i64.wrap (f + 1) = f + 1 := by rw [i64_w]; unfold wrap64; omega
                go_wp2_with fail
                go_ret
                exact ⟨rfl, by repeat (first | exact HA2.out | apply pw_below_drewN | apply below_drew1)⟩
              · have d7 : (sc == t) = false := by simp; omega
                have hr := HS.out
                have hg : goodP t false ⟨1, sc + 1, sc⟩ = true := by simp [goodP]; omega
                rw [scanP, if_pos hg, if_neg b7] at hr
                have HR2 := Aside0.mk hr
                clear hr hg HS
                go_wp2_with fail
                go_roundw
                case rel => exact ⟨i + 1, f, by omega, by first | rfl | go_num, by go_num, by omega, by omega, HR2, ⟨HB2.out.below (pw_below_drewN (Below.refl _ _) _) HB2.out.lt⟩, ⟨by repeat (first | exact HA2.out | apply pw_below_drewN | apply below_drew1)⟩⟩
                case measure => simp [intOf]; omega
            · have d6 : (sb != sc + 1) = true := by simp; omega
              have d6b : (sb == sc + 1) = false := by simp; omega
              have hr := HS.out
              have hg : goodP t false ⟨1, sb, sc⟩ = false := by simp [goodP]; omega
              rw [scanP, if_neg (by rw [hg]; decide)] at hr
              subst hr
              clear HS hg
              go_quiet (fail)
              go_wp2_with fail
              go_ret
              exact ⟨rfl, by repeat (first | exact HA2.out | apply pw_below_drewN | apply below_drew1)⟩
          · have hw : wrap64 (sc + 1) = sc + 1 := by unfold wrap64; omega
            have hw2 : IntKind.i64.wrap (sc + 1) = sc + 1 := by rw [i64_w]; exact hw
            by_cases b6 : sb = sc + 1
            · subst b6
              go_quiet (fail)
              by_cases b7 : sc = t
              · have d7 : (sc == t) = true := by simp; omega
                have hr := HS.out
                have hg : goodP t false ⟨3, sc + 1, sc⟩ = false := by simp [goodP]; omega
                rw [scanP, if_neg (by rw [hg]; decide)] at hr
                subst hr
                clear HS hg
                have hw3 : IntKind.i64.wrap (f + 1) = f + 1 := by rw [i64_w]; unfold wrap64; omega
                go_wp2_with fail
                go_ret
                exact ⟨rfl, by repeat (first | exact HA2.out | apply pw_below_drewN | apply below_drew1)⟩
              · have d7 : (sc == t) = false := by simp; omega
                have hr := HS.out
                have hg : goodP t false ⟨3, sc + 1, sc⟩ = true := by simp [goodP]; omega
                rw [scanP, if_pos hg, if_neg b7] at hr
                have HR2 := Aside0.mk hr
                clear hr hg HS
                go_wp2_with fail
                go_roundw
                case rel => exact ⟨i + 1, f, by omega, by first | rfl | go_num, by go_num, by omega, by omega, HR2, ⟨HB2.out.below (pw_below_drewN (Below.refl _ _) _) HB2.out.lt⟩, ⟨by repeat (first | exact HA2.out | apply pw_below_drewN | apply below_drew1)⟩⟩
                case measure => simp [intOf]; omega
            · have d6 : (sb != sc + 1) = true := by simp; omega
              have d6b : (sb == sc + 1) = false := by simp; omega
              have hr := HS.out
              have hg : goodP t false ⟨3, sb, sc⟩ = false := by simp [goodP]; omega
              rw [scanP, if_neg (by rw [hg]; decide)] at hr
              subst hr
              clear HS hg
              go_quiet (fail)
              go_wp2_with fail
              go_ret
              exact ⟨rfl, by repeat (first | exact HA2.out | apply pw_below_drewN | apply below_drew1)⟩
        · obtain rfl : i = n0 := by omega
          have hd1 : decide ((i : Int) < (i : Int)) = false := by simp
          have hr := HR.out
          rw [List.drop_eq_nil_of_le (by have := HN0.out; omega)] at hr
          have HR2 := Aside0.mk (show scan1 t l1 fl f = r from hr)
          clear hr HR
          go_wp2_with fail
          go_roundw
          case rel => exact ⟨f, rfl, by omega, by omega, .inr (.inl ⟨rfl, by omega, HR2⟩), HBK, HBA⟩
          case measure => simp [intOf]
    · have hix := ix1 A0 n0 c0 A1 n1 c1
      go_wp2_with fail
      clear hix
      go_loopw [3, 45] (fun vf vi wr => ∃ (i : Nat) (f : Int), i ≤ n1 ∧ vf = .int .i64 f ∧ vi = .int .i64 i ∧ 0 ≤ f ∧ f ≤ 256 + i ∧ Aside0 ((match scanP t true (l1.drop i) f with | none => 190 | some f2 => finP fl f2) = r) ∧ Aside0 (bookAt wr w.heap.size t (.slice A0 n0 c0) (.slice A1 n1 c1) fl) ∧ Aside0 (Below w.heap.size w wr)) (fun _ vi _ => n1 - (intOf vi).toNat)
      case atStart => exact ⟨0, _, by omega, rfl, rfl, by omega, by omega, by rw [List.drop_zero]; exact HR, HBK, HBA⟩
      case round =>
        clear HR HBK HBA
        obtain ⟨i, f, hi, rfl, rfl, hf0, hf1, HR, HBK, HBA⟩ := hrel
        by_cases hlt : i < n1
        · have hd1 : decide ((i : Int) < (n1 : Int)) = true := by simp; omega
          have hd2 : decide (i < n1) = true := by simp; omega
          have hr := HR.out
          have hil : i < l1.length := by have := HN1.out; omega
          rw [drop38 l1 i hil] at hr
          obtain ⟨ad, e, hx0, hx1, hx2⟩ := at_T38 H1.out (i : Int) (by omega) (by have := HN1.out; omega)
          subst e
          generalize rd_T38 l1 (i : Int) = s at *
          rw [Int.toNat_natCast] at hx0 hx1 hx2
          replace hx0 := (HBA.out.cell (World.block_lt_of_cell? w _ hx0)).trans hx0
          replace hx1 := (HBA.out.cell (World.block_lt_of_cell? w _ hx1)).trans hx1
          replace hx2 := (HBA.out.cell (World.block_lt_of_cell? w _ hx2)).trans hx2
          have HS := Aside0.mk hr
          clear hr
          go_wp2_with fail
          clear hx0 hx1 hx2
          obtain ⟨sa, sb, sc⟩ := s
          dsimp only at *
          have hbk := HBK.out
          have hba := HBA.out
          have hya := below_alloc (Below.refl wr.heap.size wr) (.cells #[.int .i64 sa, .int .i64 sb, .int .i64 sc] 38)
          have hyr := heap_alloc_new wr (.cells #[.int .i64 sa, .int .i64 sb, .int .i64 sc] 38)
          have HB2 := Aside0.mk (hbk.below hya hbk.lt)
          have HA2 := Aside0.mk (below_step hba hya)
          generalize wr.alloc (.cells #[.int .i64 sa, .int .i64 sb, .int .i64 sc] 38) = W2 at hya hyr HB2 HA2 ⊢
          have hy0 : W2.cell? ⟨wr.heap.size, 0, none⟩ = some (.int .i64 sa) := by rw [cell_of_row _ _ _ _ _ _ hyr]; rfl
          have hy1 : W2.cell? ⟨wr.heap.size, 1, none⟩ = some (.int .i64 sb) := by rw [cell_of_row _ _ _ _ _ _ hyr]; rfl
          have hy2 : W2.cell? ⟨wr.heap.size, 2, none⟩ = some (.int .i64 sc) := by rw [cell_of_row _ _ _ _ _ _ hyr]; rfl
          have hz0 := HB2.out.c0
          have HT2 := HT.out.below HA2.out
          have ht0 := HT2.c0
          have ht1 := HT2.c1
          have ht2 := HT2.c2
          have ht3 := HT2.c3
          clear hya hyr hbk hba HT2 HBK HBA
          by_cases b1 : sa < 0
          · have d1 : decide (sa < 0) = true := decide_eq_true (by omega)
            have hr := HS.out
            have hg : goodP t true ⟨sa, sb, sc⟩ = false := by simp [goodP]; omega
            rw [scanP, if_neg (by rw [hg]; decide)] at hr
            subst hr
            clear HS hg
            go_quiet (fail)
            go_wp2_with fail
            go_ret
            exact ⟨rfl, by repeat (first | exact HA2.out | apply pw_below_drewN | apply below_drew1)⟩
          have d1 : decide (sa < 0) = false := decide_eq_false (by omega)
          by_cases b2 : 4 ≤ sa
          · have d2 : decide (4 ≤ sa) = true := decide_eq_true (by omega)
            have hr := HS.out
            have hg : goodP t true ⟨sa, sb, sc⟩ = false := by simp [goodP]; omega
            rw [scanP, if_neg (by rw [hg]; decide)] at hr
            subst hr
            clear HS hg
            go_quiet (fail)
            go_wp2_with fail
            go_ret
            exact ⟨rfl, by repeat (first | exact HA2.out | apply pw_below_drewN | apply below_drew1)⟩
          have d2 : decide (4 ≤ sa) = false := decide_eq_false (by omega)
          by_cases b4 : sc < 0
          · have d4 : decide (sc < 0) = true := decide_eq_true (by omega)
            by_cases b3 : sa = 2
            · have d3 : (sa == 2) = true := by simp; omega
              have hr := HS.out
              have hg : goodP t true ⟨sa, sb, sc⟩ = false := by simp [goodP]; omega
              rw [scanP, if_neg (by rw [hg]; decide)] at hr
              subst hr
              clear HS hg
              go_quiet (fail)
              go_wp2_with fail
              go_ret
              exact ⟨rfl, by repeat (first | exact HA2.out | apply pw_below_drewN | apply below_drew1)⟩
            · have d3 : (sa == 2) = false := by simp; omega
              have hr := HS.out
              have hg : goodP t true ⟨sa, sb, sc⟩ = false := by simp [goodP]; omega
              rw [scanP, if_neg (by rw [hg]; decide)] at hr
              subst hr
              clear HS hg
              go_quiet (fail)
              go_wp2_with fail
              go_ret
              exact ⟨rfl, by repeat (first | exact HA2.out | apply pw_below_drewN | apply below_drew1)⟩
          have d4 : decide (sc < 0) = false := decide_eq_false (by omega)
          by_cases b5 : t < sc
          · have d5 : decide (t < sc) = true := decide_eq_true (by omega)
            by_cases b3 : sa = 2
            · have d3 : (sa == 2) = true := by simp; omega
              have hr := HS.out
              have hg : goodP t true ⟨sa, sb, sc⟩ = false := by simp [goodP]; omega
              rw [scanP, if_neg (by rw [hg]; decide)] at hr
              subst hr
              clear HS hg
              go_quiet (fail)
              go_wp2_with fail
              go_ret
              exact ⟨rfl, by repeat (first | exact HA2.out | apply pw_below_drewN | apply below_drew1)⟩
            · have d3 : (sa == 2) = false := by simp; omega
              have hr := HS.out
              have hg : goodP t true ⟨sa, sb, sc⟩ = false := by simp [goodP]; omega
              rw [scanP, if_neg (by rw [hg]; decide)] at hr
              subst hr
              clear HS hg
              go_quiet (fail)
              go_wp2_with fail
              go_ret
              exact ⟨rfl, by repeat (first | exact HA2.out | apply pw_below_drewN | apply below_drew1)⟩
          have d5 : decide (t < sc) = false := decide_eq_false (by omega)
          have hv : sa = 0 ∨ sa = 1 ∨ sa = 2 ∨ sa = 3 := by omega
          rcases hv with rfl | rfl | rfl | rfl
          · have hw : wrap64 (sc + 0) = sc + 0 := by unfold wrap64; omega
            have hw2 : IntKind.i64.wrap (sc + 0) = sc + 0 := by rw [i64_w]; exact hw
            by_cases b6 : sb = sc + 0
            · subst b6
              go_quiet (fail)
              by_cases b7 : sc = t
              · have d7 : (sc == t) = true := by simp; omega
                have hr := HS.out
                have hg : goodP t true ⟨0, sc + 0, sc⟩ = true := by simp [goodP]; omega
                rw [scanP, if_pos hg, if_pos b7] at hr
                have HR2 := Aside0.mk hr
                clear hr hg HS
                have hw3 : IntKind.i64.wrap (f + 1) = f + 1 := by rw [i64_w]; unfold wrap64; omega
                go_wp2_with fail
                go_roundw
                case rel => exact ⟨i + 1, f + 1, by omega, by first | rfl | go_num, by go_num, by omega, by omega, HR2, ⟨HB2.out.below (pw_below_drewN (Below.refl _ _) _) HB2.out.lt⟩, ⟨by repeat (first | exact HA2.out | apply pw_below_drewN | apply below_drew1)⟩⟩
                case measure => simp [intOf]; omega
              · have d7 : (sc == t) = false := by simp; omega
                have hr := HS.out
                have hg : goodP t true ⟨0, sc + 0, sc⟩ = true := by simp [goodP]; omega
                rw [scanP, if_pos hg, if_neg b7] at hr
                have HR2 := Aside0.mk hr
                clear hr hg HS
                go_wp2_with fail
                go_roundw
                case rel => exact ⟨i + 1, f, by omega, by first | rfl | go_num, by go_num, by omega, by omega, HR2, ⟨HB2.out.below (pw_below_drewN (Below.refl _ _) _) HB2.out.lt⟩, ⟨by repeat (first | exact HA2.out | apply pw_below_drewN | apply below_drew1)⟩⟩
                case measure => simp [intOf]; omega
            · have d6 : (sb != sc + 0) = true := by simp; omega
              have d6b : (sb == sc + 0) = false := by simp; omega
              have hr := HS.out
              have hg : goodP t true ⟨0, sb, sc⟩ = false := by simp [goodP]; omega
              rw [scanP, if_neg (by rw [hg]; decide)] at hr
              subst hr
              clear HS hg
              go_quiet (fail)
              go_wp2_with fail
              go_ret
              exact ⟨rfl, by repeat (first | exact HA2.out | apply pw_below_drewN | apply below_drew1)⟩
          · have hw : wrap64 (sc + 1) = sc + 1 := by unfold wrap64; omega
            have hw2 : IntKind.i64.wrap (sc + 1) = sc + 1 := by rw [i64_w]; exact hw
            by_cases b6 : sb = sc + 1
            · subst b6
              go_quiet (fail)
              by_cases b7 : sc = t
              · have d7 : (sc == t) = true := by simp; omega
                have hr := HS.out
                have hg : goodP t true ⟨1, sc + 1, sc⟩ = false := by simp [goodP]; omega
                rw [scanP, if_neg (by rw [hg]; decide)] at hr
                subst hr
                clear HS hg
                have hw3 : IntKind.i64.wrap (f + 1) = f + 1 := by rw [i64_w]; unfold wrap64; omega
                go_wp2_with fail
                go_ret
                exact ⟨rfl, by repeat (first | exact HA2.out | apply pw_below_drewN | apply below_drew1)⟩
              · have d7 : (sc == t) = false := by simp; omega
                have hr := HS.out
                have hg : goodP t true ⟨1, sc + 1, sc⟩ = true := by simp [goodP]; omega
                rw [scanP, if_pos hg, if_neg b7] at hr
                have HR2 := Aside0.mk hr
                clear hr hg HS
                go_wp2_with fail
                go_roundw
                case rel => exact ⟨i + 1, f, by omega, by first | rfl | go_num, by go_num, by omega, by omega, HR2, ⟨HB2.out.below (pw_below_drewN (Below.refl _ _) _) HB2.out.lt⟩, ⟨by repeat (first | exact HA2.out | apply pw_below_drewN | apply below_drew1)⟩⟩
                case measure => simp [intOf]; omega
            · have d6 : (sb != sc + 1) = true := by simp; omega
              have d6b : (sb == sc + 1) = false := by simp; omega
              have hr := HS.out
              have hg : goodP t true ⟨1, sb, sc⟩ = false := by simp [goodP]; omega
              rw [scanP, if_neg (by rw [hg]; decide)] at hr
              subst hr
              clear HS hg
              go_quiet (fail)
              go_wp2_with fail
              go_ret
              exact ⟨rfl, by repeat (first | exact HA2.out | apply pw_below_drewN | apply below_drew1)⟩
          · have hw : wrap64 (sc + 1) = sc + 1 := by unfold wrap64; omega
            have hw2 : IntKind.i64.wrap (sc + 1) = sc + 1 := by rw [i64_w]; exact hw
            by_cases b6 : sb = sc + 1
            · subst b6
              go_quiet (fail)
              by_cases b7 : sc = t
              · have d7 : (sc == t) = true := by simp; omega
                have hr := HS.out
                have hg : goodP t true ⟨2, sc + 1, sc⟩ = false := by simp [goodP]; omega
                rw [scanP, if_neg (by rw [hg]; decide)] at hr
                subst hr
                clear HS hg
                have hw3 : IntKind.i64.wrap (f + 1) = f + 1 := by rw [i64_w]; unfold wrap64; omega
                go_wp2_with fail
                go_ret
                exact ⟨rfl, by repeat (first | exact HA2.out | apply pw_below_drewN | apply below_drew1)⟩
              · have d7 : (sc == t) = false := by simp; omega
                have hr := HS.out
                have hg : goodP t true ⟨2, sc + 1, sc⟩ = true := by simp [goodP]; omega
                rw [scanP, if_pos hg, if_neg b7] at hr
                have HR2 := Aside0.mk hr
                clear hr hg HS
                go_wp2_with fail
                go_roundw
                case rel => exact ⟨i + 1, f, by omega, by first | rfl | go_num, by go_num, by omega, by omega, HR2, ⟨HB2.out.below (pw_below_drewN (Below.refl _ _) _) HB2.out.lt⟩, ⟨by repeat (first | exact HA2.out | apply pw_below_drewN | apply below_drew1)⟩⟩
                case measure => simp [intOf]; omega
            · have d6 : (sb != sc + 1) = true := by simp; omega
              have d6b : (sb == sc + 1) = false := by simp; omega
              have hr := HS.out
              have hg : goodP t true ⟨2, sb, sc⟩ = false := by simp [goodP]; omega
              rw [scanP, if_neg (by rw [hg]; decide)] at hr
              subst hr
              clear HS hg
              go_quiet (fail)
              go_wp2_with fail
              go_ret
              exact ⟨rfl, by repeat (first | exact HA2.out | apply pw_below_drewN | apply below_drew1)⟩
          · have hw : wrap64 (sc + 1) = sc + 1 := by unfold wrap64; omega
            have hw2 : IntKind.i64.wrap (sc + 1) = sc + 1 := by rw [i64_w]; exact hw
            by_cases b6 : sb = sc + 1
            · subst b6
              go_quiet (fail)
              by_cases b7 : sc = t
              · have d7 : (sc == t) = true := by simp; omega
                have hr := HS.out
                have hg : goodP t true ⟨3, sc + 1, sc⟩ = false := by simp [goodP]; omega
                rw [scanP, if_neg (by rw [hg]; decide)] at hr
                subst hr
                clear HS hg
                have hw3 : IntKind.i64.wrap (f + 1) = f + 1 := by rw [i64_w]; unfold wrap64; omega
                go_wp2_with fail
                go_ret
                exact ⟨rfl, by repeat (first | exact HA2.out | apply pw_below_drewN | apply below_drew1)⟩
              · have d7 : (sc == t) = false := by simp; omega
                have hr := HS.out
                have hg : goodP t true ⟨3, sc + 1, sc⟩ = true := by simp [goodP]; omega
                rw [scanP, if_pos hg, if_neg b7] at hr
                have HR2 := Aside0.mk hr
                clear hr hg HS
                go_wp2_with fail
                go_roundw
                case rel => exact ⟨i + 1, f, by omega, by first | rfl | go_num, by go_num, by omega, by omega, HR2, ⟨HB2.out.below (pw_below_drewN (Below.refl _ _) _) HB2.out.lt⟩, ⟨by repeat (first | exact HA2.out | apply pw_below_drewN | apply below_drew1)⟩⟩
                case measure => simp [intOf]; omega
            · have d6 : (sb != sc + 1) = true := by simp; omega
              have d6b : (sb == sc + 1) = false := by simp; omega
              have hr := HS.out
              have hg : goodP t true ⟨3, sb, sc⟩ = false := by simp [goodP]; omega
              rw [scanP, if_neg (by rw [hg]; decide)] at hr
              subst hr
              clear HS hg
              go_quiet (fail)
              go_wp2_with fail
              go_ret
              exact ⟨rfl, by repeat (first | exact HA2.out | apply pw_below_drewN | apply below_drew1)⟩
        · obtain rfl : i = n1 := by omega
          have hd1 : decide ((i : Int) < (i : Int)) = false := by simp
          have hr := HR.out
          rw [List.drop_eq_nil_of_le (by have := HN1.out; omega)] at hr
          have HR2 := Aside0.mk (show finP fl f = r from hr)
          clear hr HR
          go_wp2_with fail
          go_roundw
          case rel => exact ⟨f, rfl, by omega, by omega, .inr (.inr ⟨rfl, HR2⟩), HBK, HBA⟩
          case measure => simp [intOf]
    · have hr := HR.out
      have hz3 := HBK.out.c3
      unfold finP at hr
      by_cases g1 : 1 < f
      · rw [if_pos (.inl g1)] at hr
        subst hr
        have d1 : decide (1 < f) = true := decide_eq_true g1
        clear HR
        go_wp2_with fail
        go_ret
        exact ⟨rfl, by repeat (first | exact HBA.out | apply pw_below_drewN | apply below_drew1)⟩
      · have d1 : decide (1 < f) = false := decide_eq_false g1
        by_cases g2 : fl = decide (f = 1)
        · rw [if_neg (by rintro (h | h); exact g1 h; exact h g2)] at hr
          subst hr
          clear HR
          by_cases g3 : f = 1
          · have d3 : (f == 1) = true := by simp; omega
            obtain rfl : fl = true := by rw [g2]; exact decide_eq_true g3
            clear g2 g3 g1
            go_wp2_with fail
            go_ret
            exact ⟨rfl, by repeat (first | exact HBA.out | apply pw_below_drewN | apply below_drew1)⟩
          · have d3 : (f == 1) = false := by simp; omega
            obtain rfl : fl = false := by rw [g2]; exact decide_eq_false g3
            clear g2 g3 g1
            go_wp2_with fail
            go_ret
            exact ⟨rfl, by repeat (first | exact HBA.out | apply pw_below_drewN | apply below_drew1)⟩
        · rw [if_pos (.inr g2)] at hr
          subst hr
          clear HR
          by_cases g3 : f = 1
          · have d3 : (f == 1) = true := by simp; omega
            obtain rfl : fl = false := by rw [decide_eq_true g3] at g2; cases fl <;> simp_all
            go_wp2_with fail
            go_ret
            exact ⟨rfl, by repeat (first | exact HBA.out | apply pw_below_drewN | apply below_drew1)⟩
          · have d3 : (f == 1) = false := by simp; omega
            obtain rfl : fl = true := by rw [decide_eq_false g3] at g2; cases fl <;> simp_all
            go_wp2_with fail
            go_ret
            exact ⟨rfl, by repeat (first | exact HBA.out | apply pw_below_drewN | apply below_drew1)⟩
end Go.Proofs.YtponmfnegdlppaaDoor.P

end
section
/- What is done to a task in its place: the four function values. -/
namespace Go.Proofs.YtponmfnegdlppaaDoor.P
open Go.RowKit Go.Proofs.YtponmfnegdlppaaDoorW.PrintWords Go.Proofs.YtponmfnegdlppaaDoorW.PrintLast Go.Proofs.YtponmfnegdlppaaDoorW.PrintMore
set_option linter.unusedVariables false
set_option linter.unusedSimpArgs false

theorem setCell_id (W : World) (g off : Nat) (v : Value) (h : W.cell? ⟨g, off, none⟩ = some v) : W.setCell ⟨g, off, none⟩ v = W := by
  have hh : (W.setCell ⟨g, off, none⟩ v).heap = W.heap := by
    unfold World.setCell
    simp only
    apply Array.ext_getElem?
    intro k
    rw [Array.getElem?_modify]
    by_cases hk : g = k
    · subst hk
      rw [if_pos rfl]
      unfold World.cell? at h
      cases hx : W.heap[g]? with
      | none => rfl
      | some o =>
        rw [hx] at h
        cases o with
        | cells c e fr =>
          simp only [Option.isSome_none, Bool.false_eq_true, if_false] at h
          simp only [Option.map_some, Option.isSome_none, Bool.false_eq_true, if_false]
          congr 2
          apply Array.ext_getElem?
          intro j
          rw [Array.getElem?_setIfInBounds]
          split
          · rename_i hj
            subst hj
            split
            · exact h.symm
            · rename_i hj2
              rw [Array.getElem?_eq_none (by omega)] at h
              cases h
          · rfl
        | _ => rfl
    · rw [if_neg hk]
  unfold World.setCell at hh ⊢
  simp only at hh ⊢
  rw [hh]
theorem setCell_swap (W : World) (g o1 o2 : Nat) (v1 v2 : Value) (h : o1 ≠ o2) : (W.setCell ⟨g, o1, none⟩ v1).setCell ⟨g, o2, none⟩ v2 = (W.setCell ⟨g, o2, none⟩ v2).setCell ⟨g, o1, none⟩ v1 := by
  unfold World.setCell
  simp only
  congr 1
  apply Array.ext_getElem?
  intro k
  simp only [Array.getElem?_modify]
  by_cases hk : g = k
  · subst hk
    simp only [if_pos]
    cases W.heap[g]? with
    | none => rfl
    | some o =>
      cases o with
      | cells c e fr =>
        simp only [Option.map_some, Option.isSome_none, Bool.false_eq_true, if_false]
        rw [Array.setIfInBounds_comm _ _ h]
      | _ => rfl
  · simp only [if_neg hk]
/-- a task's cells and the book's last one written -/
def put4 (W : World) (gs off : Nat) (s : S38) (gb : Nat) (fl : Bool) : World := (((W.setCell ⟨gs, off, none⟩ (.int .i64 s.f0)).setCell ⟨gs, off + 1, none⟩ (.int .i64 s.f1)).setCell ⟨gs, off + 2, none⟩ (.int .i64 s.f2)).setCell ⟨gb, 3, none⟩ (.bool fl)
/-- where a task lies -/
structure taskAt (W : World) (gs off : Nat) (s : S38) : Prop where
  c0 : W.cell? ⟨gs, off, none⟩ = some (.int .i64 s.f0)
  c1 : W.cell? ⟨gs, off + 1, none⟩ = some (.int .i64 s.f1)
  c2 : W.cell? ⟨gs, off + 2, none⟩ = some (.int .i64 s.f2)
  f0 : W.frozen? ⟨gs, off, none⟩ = false
  f1 : W.frozen? ⟨gs, off + 1, none⟩ = false
  f2 : W.frozen? ⟨gs, off + 2, none⟩ = false

section
variable {W : World} {gb gs off : Nat} {t : Int} {u0 u1 : Value} {fl : Bool} {s : S38}
theorem put4_0 (hb : bookAt W gb t u0 u1 fl) (ht : taskAt W gs off s) (hne : gs ≠ gb) (x : Int) : put4 W gs off ⟨x, s.f1, s.f2⟩ gb fl = W.setCell ⟨gs, off, none⟩ (.int .i64 x) := by
  unfold put4
  dsimp only
  rw [setCell_id (W.setCell ⟨gs, off, none⟩ (.int .i64 x)) gs (off + 1) _ ((World.cell?_setCell_other _ _ _ _ (by simp)).trans ht.c1),
    setCell_id (W.setCell ⟨gs, off, none⟩ (.int .i64 x)) gs (off + 2) _ ((World.cell?_setCell_other _ _ _ _ (by simp)).trans ht.c2),
    setCell_id _ gb 3 _ ((World.cell?_setCell_other _ _ _ _ (by simp [hne])).trans hb.c3)]
end
set_option maxHeartbeats 4000000 in
set_option maxRecDepth 100000 in
theorem do_done (W : World) (gb gs off : Nat) (t : Int) (u0 u1 : Value) (fl : Bool) (s : S38) (hb : bookAt W gb t u0 u1 fl) (ht : taskAt W gs off s) (hne : gs ≠ gb) :
    Calls Tryd.prog 46 #[.pointer (some ⟨gb, 0, none⟩), .pointer (some ⟨gs, off, none⟩)] W fun e w' => e = .returned (.tuple #[]) ∧ ∃ q, w' = (put4 W gs off ⟨3, s.f1, s.f2⟩ gb fl).drewN q := by
  rw [put4_0 hb ht hne]
  have h0 := ht.c0
  have h3 := ht.f0
  have hu38 := Tryd.underlying38
  clear hb ht
  go_enter Tryd.func46, Tryd.ntmps46
  go_wp2_with fail
  go_end0
  exact ⟨rfl, 0, rfl⟩
set_option maxHeartbeats 4000000 in
set_option maxRecDepth 100000 in
theorem do_hold (W : World) (gb gs off : Nat) (t : Int) (u0 u1 : Value) (fl : Bool) (s : S38) (hb : bookAt W gb t u0 u1 fl) (ht : taskAt W gs off s) (hne : gs ≠ gb) :
    Calls Tryd.prog 59 #[.pointer (some ⟨gb, 0, none⟩), .pointer (some ⟨gs, off, none⟩)] W fun e w' => e = .returned (.tuple #[]) ∧ ∃ q, w' = (put4 W gs off ⟨2, s.f1, s.f2⟩ gb fl).drewN q := by
  rw [put4_0 hb ht hne]
  have h0 := ht.c0
  have h3 := ht.f0
  have hu38 := Tryd.underlying38
  clear hb ht
  go_enter Tryd.func59, Tryd.ntmps59
  go_wp2_with fail
  go_end0
  exact ⟨rfl, 0, rfl⟩
section
variable {W : World} {gb gs off : Nat} {t : Int} {u0 u1 : Value} {fl : Bool} {s : S38}
theorem put4_1 (hb : bookAt W gb t u0 u1 fl) (ht : taskAt W gs off s) (hne : gs ≠ gb) (x y : Int) : put4 W gs off ⟨x, y, s.f2⟩ gb fl = (W.setCell ⟨gs, off, none⟩ (.int .i64 x)).setCell ⟨gs, off + 1, none⟩ (.int .i64 y) := by
  unfold put4
  dsimp only
  rw [setCell_id ((W.setCell ⟨gs, off, none⟩ (.int .i64 x)).setCell ⟨gs, off + 1, none⟩ (.int .i64 y)) gs (off + 2) _ ((World.cell?_setCell_other _ _ _ _ (by simp)).trans ((World.cell?_setCell_other _ _ _ _ (by simp)).trans ht.c2)),
    setCell_id _ gb 3 _ ((World.cell?_setCell_other _ _ _ _ (by simp [hne])).trans ((World.cell?_setCell_other _ _ _ _ (by simp [hne])).trans hb.c3))]
theorem put4_2 (hb : bookAt W gb t u0 u1 fl) (ht : taskAt W gs off s) (hne : gs ≠ gb) (x z : Int) (f : Bool) : put4 W gs off ⟨x, s.f1, z⟩ gb f = ((W.setCell ⟨gs, off, none⟩ (.int .i64 x)).setCell ⟨gs, off + 2, none⟩ (.int .i64 z)).setCell ⟨gb, 3, none⟩ (.bool f) := by
  unfold put4
  dsimp only
  rw [setCell_id (W.setCell ⟨gs, off, none⟩ (.int .i64 x)) gs (off + 1) _ ((World.cell?_setCell_other _ _ _ _ (by simp)).trans ht.c1)]
end
set_option maxHeartbeats 4000000 in
set_option maxRecDepth 100000 in
theorem do_begin (W : World) (gb gs off gn : Nat) (n : Int) (t : Int) (u0 u1 : Value) (fl : Bool) (s : S38) (hb : bookAt W gb t u0 u1 fl) (ht : taskAt W gs off s) (hne : gs ≠ gb) (hn : W.cell? ⟨gn, 0, none⟩ = some (.int .i64 n)) (hng : gn ≠ gs) :
    Calls Tryd.prog 57 #[.pointer (some ⟨gb, 0, none⟩), .pointer (some ⟨gs, off, none⟩), .pointer (some ⟨gn, 0, none⟩)] W fun e w' => e = .returned (.tuple #[]) ∧ ∃ q, w' = (put4 W gs off ⟨1, n, s.f2⟩ gb fl).drewN q := by
  rw [put4_1 hb ht hne]
  have hsw := setCell_swap W gs off (off + 1) (.int .i64 1) (.int .i64 n) (by omega)
  have h0 := ht.c0
  have h1 := ht.c1
  have h3 := ht.f0
  have h4 := ht.f1
  have hu38 := Tryd.underlying38
  have HSW := Aside0.mk hsw
  clear hb ht hsw
  go_enter Tryd.func57, Tryd.ntmps57
  go_wp2_with fail
  go_region
  all_goals go_end0
  all_goals first | exact ⟨rfl, 1, rfl⟩ | exact ⟨rfl, 1, by rw [HSW.out]; rfl⟩
set_option maxHeartbeats 4000000 in
set_option maxRecDepth 100000 in
theorem do_charge (W : World) (gb gs off : Nat) (t : Int) (u0 u1 : Value) (fl : Bool) (s : S38) (hb : bookAt W gb t u0 u1 fl) (ht : taskAt W gs off s) (hne : gs ≠ gb) (h0 : 0 ≤ s.f2) (h16 : s.f2 ≤ 1000) :
    Calls Tryd.prog 50 #[.pointer (some ⟨gb, 0, none⟩), .pointer (some ⟨gs, off, none⟩)] W fun e w' => e = .returned (.tuple #[]) ∧ ∃ q, w' = (put4 W gs off ⟨0, s.f1, s.f2 + 1⟩ gb (fl || decide (s.f2 + 1 = t))).drewN q := by
  rw [put4_2 hb ht hne]
  have hx0 := ht.c0
  have hx2 := ht.c2
  have hf0 := ht.f0
  have hf2 := ht.f2
  have hz0 := hb.c0
  have hz3 := hb.c3
  have hzf : W.frozen? ⟨gb, 3, none⟩ = false := frozen_of_row _ _ _ _ _ hb
  have hw2 : IntKind.i64.wrap (s.f2 + 1) = s.f2 + 1 := by rw [i64_w]; unfold wrap64; omega
  have hu38 := Tryd.underlying38
  have hu24 := Tryd.underlying24
  clear hb ht h0 h16
  generalize s.f2 = c at *
  generalize s.f0 = a at *
  go_enter Tryd.func50, Tryd.ntmps50
  go_wp2_with fail
  have hy0 : ((W.setCell ⟨gs, off, none⟩ (.int .i64 0)).setCell ⟨gs, off + 2, none⟩ (.int .i64 (c + 1))).cell? ⟨gb, 0, none⟩ = some (.int .i64 t) := (World.cell?_setCell_other _ _ _ _ (by simp [hne])).trans ((World.cell?_setCell_other _ _ _ _ (by simp [hne])).trans hz0)
  have hy3 : ((W.setCell ⟨gs, off, none⟩ (.int .i64 0)).setCell ⟨gs, off + 2, none⟩ (.int .i64 (c + 1))).cell? ⟨gb, 3, none⟩ = some (.bool fl) := (World.cell?_setCell_other _ _ _ _ (by simp [hne])).trans ((World.cell?_setCell_other _ _ _ _ (by simp [hne])).trans hz3)
  have hy2 : ((W.setCell ⟨gs, off, none⟩ (.int .i64 0)).setCell ⟨gs, off + 2, none⟩ (.int .i64 (c + 1))).cell? ⟨gs, off + 2, none⟩ = some (.int .i64 (c + 1)) := World.cell?_setCell_same _ _ _ ((World.cell?_setCell_other _ _ _ _ (by simp)).trans hx2)
  have hyf : ((W.setCell ⟨gs, off, none⟩ (.int .i64 0)).setCell ⟨gs, off + 2, none⟩ (.int .i64 (c + 1))).frozen? ⟨gb, 3, none⟩ = false := by rw [World.frozen?_setCell, World.frozen?_setCell]; exact hzf
  obtain ⟨W2, hW2⟩ : ∃ W2, W2 = (W.setCell ⟨gs, off, none⟩ (.int .i64 0)).setCell ⟨gs, off + 2, none⟩ (.int .i64 (c + 1)) := ⟨_, rfl⟩
  rw [← hW2] at hy0 hy3 hy2 hyf ⊢
  have HW2 := Aside0.mk hW2
  clear hW2
  clear hf0 hf2 hz0 hz3 hzf hw2 hne
  cases fl
  · by_cases hc : c + 1 = t
    · have d1 : (c + 1 == t) = true := by simp; omega
      have HC := Aside0.mk (decide_eq_true hc)
      clear hc
      go_region
      all_goals go_end0
      all_goals exact ⟨rfl, 1, by rw [← HW2.out, HC.out]; rfl⟩
    · have d1 : (c + 1 == t) = false := by simp; omega
      have HC := Aside0.mk (decide_eq_false hc)
      clear hc
      go_region
      all_goals go_end0
      all_goals exact ⟨rfl, 1, by rw [← HW2.out, HC.out]; rfl⟩
  · go_region
    all_goals go_end0
    all_goals exact ⟨rfl, 1, by rw [← HW2.out]; rfl⟩
end Go.Proofs.YtponmfnegdlppaaDoor.P

end
section
/- ledger.state and ledger.changed, by hand (printed by HChanged.gen.py). -/
namespace Go.Proofs.YtponmfnegdlppaaDoor.P
open Go.RowKit Go.Proofs.YtponmfnegdlppaaDoorW.PrintWords Go.Proofs.YtponmfnegdlppaaDoorW.PrintLast Go.Proofs.YtponmfnegdlppaaDoorW.PrintMore
set_option linter.unusedVariables false
set_option linter.unusedSimpArgs false

set_option maxHeartbeats 4000000 in
set_option maxRecDepth 100000 in
theorem state_map (W : World) (gb : Nat) (t : Int) (ad : Addr) (n0 c0 : Nat) (u1 : Value) (fl : Bool) (b : Int) (hb : bookAt W gb t (.slice (some ad) n0 c0) u1 fl) (h0 : 0 ≤ b) (h1 : b < n0) :
    Calls Tryd.prog 55 #[.pointer (some ⟨gb, 0, none⟩), .agg #[.int .i64 0, .int .i64 b]] W fun e w' => e = .returned (.pointer (some (ad.add (b.toNat * 3)))) ∧ Below W.heap.size W w' := by
  have hba := below_alloc (Below.refl W.heap.size W) (.cells #[.int .i64 0, .int .i64 b] 29)
  have hx1 : (W.alloc (.cells #[.int .i64 0, .int .i64 b] 29)).cell? ⟨gb, 1, none⟩ = some (.slice (some ad) n0 c0) := (hba.cell hb.lt).trans hb.c1
  have HBA := Aside0.mk hba
  have hu22 := Tryd.underlying22
  have hu29 := Tryd.underlying29
  have hu24 := Tryd.underlying24
  have hu38 := Tryd.underlying38
  clear hb hba
  have p1 := eq_true h0
  have p2 := eq_true h1
  go_enter Tryd.func55, Tryd.ntmps55
  go_wp2_with fail
  go_quiet (fail)
  go_wp2_with fail
  go_ret
  exact ⟨rfl, by repeat (first | exact HBA.out | apply pw_below_drewN | apply below_drew1)⟩
set_option maxHeartbeats 4000000 in
set_option maxRecDepth 100000 in
theorem state_red (W : World) (gb : Nat) (t : Int) (ad : Addr) (n0 c0 : Nat) (u1 : Value) (fl : Bool) (b : Int) (hb : bookAt W gb t u1 (.slice (some ad) n0 c0) fl) (h0 : 0 ≤ b) (h1 : b < n0) :
    Calls Tryd.prog 55 #[.pointer (some ⟨gb, 0, none⟩), .agg #[.int .i64 1, .int .i64 b]] W fun e w' => e = .returned (.pointer (some (ad.add (b.toNat * 3)))) ∧ Below W.heap.size W w' := by
  have hba := below_alloc (Below.refl W.heap.size W) (.cells #[.int .i64 1, .int .i64 b] 29)
  have hx1 : (W.alloc (.cells #[.int .i64 1, .int .i64 b] 29)).cell? ⟨gb, 2, none⟩ = some (.slice (some ad) n0 c0) := (hba.cell hb.lt).trans hb.c2
  have HBA := Aside0.mk hba
  have hu22 := Tryd.underlying22
  have hu29 := Tryd.underlying29
  have hu24 := Tryd.underlying24
  have hu38 := Tryd.underlying38
  clear hb hba
  have p1 := eq_true h0
  have p2 := eq_true h1
  go_enter Tryd.func55, Tryd.ntmps55
  go_wp2_with fail
  go_quiet (fail)
  go_wp2_with fail
  go_ret
  exact ⟨rfl, by repeat (first | exact HBA.out | apply pw_below_drewN | apply below_drew1)⟩

theorem own_ne {k g n c : Nat} (h : k ≠ g) : some k ≠ (Value.slice (some ⟨g, 0, none⟩) n c).ownBlock := by
  intro e
  have : k = g := by simpa [Value.ownBlock] using e
  exact h this
theorem addr0 (g b : Nat) : (⟨g, 0, none⟩ : Addr).add ((b : Int).toNat * 3) = ⟨g, b * 3, none⟩ := by
  rw [Int.toNat_natCast]
  unfold Addr.add
  by_cases h : b * 3 = 0
  · rw [h]; rfl
  · simp [h]
theorem state_map_own (W : World) (gb : Nat) (t : Int) (g n0 c0 : Nat) (u1 : Value) (fl : Bool) (b : Nat) (hb : bookAt W gb t (.slice (some ⟨g, 0, none⟩) n0 c0) u1 fl) (h1 : b < n0) :
    Calls Tryd.prog 55 #[.pointer (some ⟨gb, 0, none⟩), .agg #[.int .i64 0, .int .i64 b]] W fun e w' => e = .returned (.pointer (some ⟨g, b * 3, none⟩)) ∧ Below W.heap.size W w' := by
  have h := state_map W gb t ⟨g, 0, none⟩ n0 c0 u1 fl b hb (by omega) (by omega)
  rw [addr0] at h
  exact h
theorem state_red_own (W : World) (gb : Nat) (t : Int) (g n0 c0 : Nat) (u1 : Value) (fl : Bool) (b : Nat) (hb : bookAt W gb t u1 (.slice (some ⟨g, 0, none⟩) n0 c0) fl) (h1 : b < n0) :
    Calls Tryd.prog 55 #[.pointer (some ⟨gb, 0, none⟩), .agg #[.int .i64 1, .int .i64 b]] W fun e w' => e = .returned (.pointer (some ⟨g, b * 3, none⟩)) ∧ Below W.heap.size W w' := by
  have h := state_red W gb t ⟨g, 0, none⟩ n0 c0 u1 fl b hb (by omega) (by omega)
  rw [addr0] at h
  exact h
/-- an empty row, new -/
theorem R_none (W : World) (base : Nat) (hb : base ≤ W.heap.size) : Kd.R k38 38 (W.alloc (.cells #[] 38)) base (fun k => W.heap.size ≤ k) (.slice (some ⟨W.heap.size, 0, none⟩) 0 0) [] :=
  ⟨fun k hk => by have : W.heap.size = k := by simpa [Value.ownBlock] using hk
                  omega, [], World.ownsRow_lit (base := base) (e := 38) (size := k38.sz) W #[] 0 hb (by simp [maxLen]) (by simp), Reps.none _ _⟩
theorem taskAt_own {W : World} {base g n c : Nat} {P : Nat → Prop} {l : List S38} (h : Kd.R k38 38 W base P (.slice (some ⟨g, 0, none⟩) n c) l) (i : Nat) (hi : i < n) : taskAt W g (i * 3) (rd_T38 l (i : Int)) := by
  obtain ⟨ce, hcl, hM, hcc, hfr⟩ := Kd.R_elem h z38 (i : Int) (by omega) (by omega)
  obtain rfl := k38_openM hM
  rw [Int.toNat_natCast] at hcc hfr
  have e : l.getD i z38 = rd_T38 l (i : Int) := by unfold rd_T38; rw [Int.toNat_natCast]
  rw [e] at hcc
  exact ⟨hcc 0 _ rfl, hcc 1 _ rfl, hcc 2 _ rfl, hfr 0, hfr 1, hfr 2⟩
theorem R_put4 {W : World} {base g n c gb : Nat} {P : Nat → Prop} {l : List S38} (h : Kd.R k38 38 W base P (.slice (some ⟨g, 0, none⟩) n c) l) (i : Nat) (hi : i < n) (x : S38) (fl : Bool) (hP : ¬ P gb) :
    Kd.R k38 38 (put4 W g (i * 3) x gb fl) base P (.slice (some ⟨g, 0, none⟩) n c) (l.set i x) := by
  obtain ⟨ce, hcl, hM, hcc, hfr⟩ := Kd.R_elem h z38 (i : Int) (by omega) (by omega)
  obtain rfl := k38_openM hM
  have hR := Kd.R_seg h (i : Int) (by omega) (by omega) (seg := [.int .i64 x.f0, .int .i64 x.f1, .int .i64 x.f2]) (j := 0) hcl hcc (show 3 ≤ 3 from by decide) (x' := x) (k38_mkM _ _ _ x) (fun _ hk => hk)
  rw [Int.toNat_natCast] at hR
  exact Kd.R_far hR.1 (fun k hk => by rintro rfl; exact hP hk) _
theorem put4_heap (W : World) (gs off : Nat) (s : S38) (gb : Nat) (fl : Bool) (k : Nat) (h1 : k ≠ gs) (h2 : k ≠ gb) : (put4 W gs off s gb fl).heap[k]? = W.heap[k]? := by
  unfold put4
  rw [Below.heap_setCell _ _ _ _ h2, Below.heap_setCell _ _ _ _ h1, Below.heap_setCell _ _ _ _ h1, Below.heap_setCell _ _ _ _ h1]
theorem R_put4_far {W : World} {base gs off gb : Nat} {P : Nat → Prop} {v : Value} {l : List S38} (h : Kd.R k38 38 W base P v l) (x : S38) (fl : Bool) (h1 : ¬ P gs) (h2 : ¬ P gb) : Kd.R k38 38 (put4 W gs off x gb fl) base P v l :=
  Kd.R_far (Kd.R_far (Kd.R_far (Kd.R_far h (p := ⟨gs, off, none⟩) (fun k hk => by rintro rfl; exact h1 hk) _) (p := ⟨gs, off + 1, none⟩) (fun k hk => by rintro rfl; exact h1 hk) _) (p := ⟨gs, off + 2, none⟩) (fun k hk => by rintro rfl; exact h1 hk) _) (p := ⟨gb, 3, none⟩) (fun k hk => by rintro rfl; exact h2 hk) _
theorem book_put4 {W : World} {gs off gb : Nat} {t : Int} {u0 u1 : Value} {fl : Bool} (h : bookAt W gb t u0 u1 fl) (x : S38) (f : Bool) (hne : gs ≠ gb) : bookAt (put4 W gs off x gb f) gb t u0 u1 f := by
  unfold put4
  refine blk_put (cs := #[.int .i64 t, u0, u1, .bool fl]) ?_ 3 _ rfl
  rw [Below.heap_setCell _ _ _ _ (Ne.symm hne), Below.heap_setCell _ _ _ _ (Ne.symm hne), Below.heap_setCell _ _ _ _ (Ne.symm hne)]
  exact h
theorem below_put4 {w0 W : World} {base gs off gb : Nat} (h : Below base w0 W) (x : S38) (f : Bool) (h1 : base ≤ gs) (h2 : base ≤ gb) : Below base w0 (put4 W gs off x gb f) :=
  (((h.setCell h1 _).setCell h1 _).setCell h1 _).setCell h2 _
theorem size_put4 (W : World) (gs off : Nat) (x : S38) (gb : Nat) (f : Bool) : (put4 W gs off x gb f).heap.size = W.heap.size := by
  unfold put4
  simp

set_option maxHeartbeats 4000000 in
set_option maxRecDepth 100000 in
theorem changed_map (fid : Nat) (cap : Array Value) (hE : Enters Tryd.prog fid) (t : Int) (fl : Bool) (A0 : Option Addr) (c0 : Nat) (l0 : List S38) (A1 : Option Addr) (c1 : Nat) (l1 : List S38) (b : Nat) (s' : S38) (fl' : Bool) (w : World)
    (h0 : Kd.C k38 w A0 l0.length l0) (h1 : Kd.C k38 w A1 l1.length l1) (hl0 : l0.length ≤ 100000) (hl1 : l1.length ≤ 100000) (hb : b < l0.length)
    (hdo : ∀ (W : World) (gb gs off : Nat) (u0 u1 : Value), bookAt W gb t u0 u1 fl → taskAt W gs off (rd_T38 l0 (b : Int)) → gs ≠ gb → w.heap.size ≤ gs → Below w.heap.size w W →
      Calls Tryd.prog fid (#[.pointer (some ⟨gb, 0, none⟩), .pointer (some ⟨gs, off, none⟩)] ++ cap) W fun e w' => e = .returned (.tuple #[]) ∧ ∃ q, w' = (put4 W gs off s' gb fl').drewN q) :
    Calls Tryd.prog 56 #[.agg #[.int .i64 t, .slice A0 l0.length c0, .slice A1 l1.length c1, .bool fl], .agg #[.int .i64 0, .int .i64 b], .func (.func fid) #[] cap] w fun e w' =>
      ∃ v1 v2 : Value, e = .returned (.agg #[.int .i64 t, v1, v2, .bool fl']) ∧ Kd.R k38 38 w' w.heap.size (fun k => some k ≠ v2.ownBlock) v1 (l0.set b s') ∧ Kd.R k38 38 w' w.heap.size (fun k => some k ≠ v1.ownBlock) v2 l1 ∧ Below w.heap.size w w' := by
  have H0 := Aside0.mk h0
  have H1 := Aside0.mk h1
  have HL0 := Aside0.mk hl0
  have HL1 := Aside0.mk hl1
  have HBI := Aside0.mk hb
  have HDO := Aside0.mk hdo
  clear h0 h1 hl0 hl1 hb hdo
  have hu22 := Tryd.underlying22
  have hu29 := Tryd.underlying29
  have hu24 := Tryd.underlying24
  have hu38 := Tryd.underlying38
  have hw3 : ∃ W3, W3 = ((w.alloc (.cells #[.int .i64 t, .slice A0 l0.length c0, .slice A1 l1.length c1, .bool fl] 24)).alloc (.cells #[.int .i64 0, .int .i64 b] 29)).alloc (.cells #[.int .i64 0, .slice none 0 0, .slice none 0 0, .bool false] 24) := ⟨_, rfl⟩
  obtain ⟨W3, hW3⟩ := hw3
  have q0 : Below w.heap.size w W3 := by rw [hW3]; exact below_alloc (below_alloc (below_alloc (Below.refl _ _) _) _) _
  have q1 : W3.heap.size = w.heap.size + 3 := by rw [hW3]; simp
  have q2 : bookAt W3 w.heap.size t (.slice A0 l0.length c0) (.slice A1 l1.length c1) fl := by
    rw [hW3]
    have e1 := heap_alloc_new w (.cells #[.int .i64 t, .slice A0 l0.length c0, .slice A1 l1.length c1, .bool fl] 24)
    exact ((below_alloc (below_alloc (Below.refl _ _) _) _).block w.heap.size (by simp)).trans e1
  have q3 : W3.heap[w.heap.size + 1]? = some (.cells #[.int .i64 0, .int .i64 b] 29 (0, 0)) := by
    rw [hW3]
    have e1 := heap_alloc_new (w.alloc (.cells #[.int .i64 t, .slice A0 l0.length c0, .slice A1 l1.length c1, .bool fl] 24)) (.cells #[.int .i64 0, .int .i64 b] 29)
    rw [show (w.alloc (.cells #[.int .i64 t, .slice A0 l0.length c0, .slice A1 l1.length c1, .bool fl] 24)).heap.size = w.heap.size + 1 from by simp] at e1
    exact ((below_alloc (Below.refl _ _) _).block (w.heap.size + 1) (by simp)).trans e1
  have q4 : W3.heap[w.heap.size + 1 + 1]? = some (.cells #[.int .i64 0, .slice none 0 0, .slice none 0 0, .bool false] 24 (0, 0)) := by
    rw [hW3]
    have e1 := heap_alloc_new ((w.alloc (.cells #[.int .i64 t, .slice A0 l0.length c0, .slice A1 l1.length c1, .bool fl] 24)).alloc (.cells #[.int .i64 0, .int .i64 b] 29)) (.cells #[.int .i64 0, .slice none 0 0, .slice none 0 0, .bool false] 24)
    rw [show ((w.alloc (.cells #[.int .i64 t, .slice A0 l0.length c0, .slice A1 l1.length c1, .bool fl] 24)).alloc (.cells #[.int .i64 0, .int .i64 b] 29)).heap.size = w.heap.size + 1 + 1 from by simp] at e1
    exact e1
  have Q0 := Aside0.mk q0
  have Q1 := Aside0.mk q1
  have Q2 := Aside0.mk q2
  have Q3 := Aside0.mk q3
  have Q4 := Aside0.mk q4
  have HW3 := Aside0.mk hW3
  clear q0 q1 q2 q3 q4 hW3
  go_enter Tryd.func56, Tryd.ntmps56
  go_upto_region 1 with (fail)
  rw [← HW3.out]
  clear HW3
  have hx1 : (W3.alloc (.cells #[] 38)).cell? ⟨w.heap.size, 1, none⟩ = some (.slice A0 l0.length c0) := ((below_alloc (Below.refl _ _) _).cell Q2.out.lt).trans Q2.out.c1
  go_upto_region 2 with ((with_reducible refine gate_builtin (b := .append) (xs := #[.tmp 7, .tmp 9]) rfl ?_); at_builtin; go_must (refine Kd.R_append_rows k38 (w0 := w) w.heap.size rfl (.tmp 7) (.tmp 9) 22 38 (.agg #[(.int .i64 0), (.int .i64 0), (.int .i64 0)]) 24 rfl Tryd.underlying22 info38 rfl (by decide) (by omega) _ [] l0 _ _ _ (fun k => w.heap.size + 3 ≤ k) (fun _ => False) rfl rfl ?aO ?aR (fun _ _ h => h) (fun _ h => h.elim) ?aF ?aB ?aS ?aL ?_; (case aO => exact Kd.R_mono (R_none W3 _ (by have := Q1.out; omega)) (fun k hk => by have := Q1.out; omega)); (case aR => exact Kd.C_below H0.out (below_alloc Q0.out _)); (case aF => exact fun k hk => by (have := Q1.out; simp at hk; omega)); (case aB => exact below_alloc Q0.out _); (case aS => (have := Q1.out; simp; omega)); (case aL => have := HL0.out; simp; omega); intro v1 w1 ho hb hg hat; rw [List.nil_append] at ho; obtain ⟨B0, d0, e0⟩ := Kd.R_slice ho; subst e0; have HO := Aside0.mk ho; have HB1 := Aside0.mk hb; have HK := Aside0.mk (show ∀ k, k < W3.heap.size → w1.heap[k]? = W3.heap[k]? from fun k hk => (hg.block k (by simp; omega) (own_ne (by omega))).trans ((below_alloc (Below.refl _ _) _).block k hk)); clear ho hb hg hat hx1; have HBK := Aside0.mk (show bookAt w1 w.heap.size t (.slice A0 l0.length c0) (.slice A1 l1.length c1) fl from (HK.out _ (by have := Q1.out; omega)).trans Q2.out); have hx1 := HBK.out.c1; have hf1 : w1.frozen? ⟨w.heap.size, 1, none⟩ = false := frozen_of_row _ _ _ _ _ HBK.out))
  obtain ⟨W4, hW4⟩ : ∃ W4, W4 = w1.setCell ⟨w.heap.size, 1, none⟩ (.slice B0 l0.length d0) := ⟨_, rfl⟩
  rw [← hW4]
  have P1 := Aside0.mk (show bookAt W4 w.heap.size t (.slice B0 l0.length d0) (.slice A1 l1.length c1) fl from by rw [hW4]; exact blk_put (cs := #[.int .i64 t, .slice A0 l0.length c0, .slice A1 l1.length c1, .bool fl]) HBK.out 1 _ rfl)
  have PS := Aside0.mk (show w.heap.size + 3 ≤ W4.heap.size from by
    have h1 := HBK.out.lt
    have h2 := (Array.getElem?_eq_some_iff.1 ((HK.out (w.heap.size + 1 + 1) (by have := Q1.out; omega)).trans Q4.out)).1
    rw [hW4]
    simp
    omega)
  have P2 := Aside0.mk (show W4.heap[w.heap.size + 1]? = some (.cells #[.int .i64 0, .int .i64 b] 29 (0, 0)) from by rw [hW4, Below.heap_setCell _ _ _ _ (show w.heap.size + 1 ≠ w.heap.size by omega)]; exact (HK.out _ (by have := Q1.out; omega)).trans Q3.out)
  have P3 := Aside0.mk (show W4.heap[w.heap.size + 1 + 1]? = some (.cells #[.int .i64 0, .slice none 0 0, .slice none 0 0, .bool false] 24 (0, 0)) from by rw [hW4, Below.heap_setCell _ _ _ _ (show w.heap.size + 1 + 1 ≠ w.heap.size by omega)]; exact (HK.out _ (by have := Q1.out; omega)).trans Q4.out)
  have P4 := Aside0.mk (show Kd.R k38 38 W4 w.heap.size (fun k => w.heap.size + 3 ≤ k ∧ k < W4.heap.size) (.slice B0 l0.length d0) l0 from by
    have e : W4.heap.size = w1.heap.size := by rw [hW4]; simp
    rw [e, hW4]
    exact Kd.R_far (Kd.R_mono (Kd.R_bound HO.out) (fun k hk => ⟨hk.1, hk.2.2.1⟩)) (fun k hk => by have := hk.1; simp; omega) _)
  have P5 := Aside0.mk (show Below w.heap.size w W4 from by rw [hW4]; exact HB1.out.setCell (Nat.le_refl _) _)
  clear hW4 HBK hx1 hf1 HO HB1 HK Q0 Q1 Q2 Q3 Q4
  have hx2 : (W4.alloc (.cells #[] 38)).cell? ⟨w.heap.size, 2, none⟩ = some (.slice A1 l1.length c1) := ((below_alloc (Below.refl _ _) _).cell P1.out.lt).trans P1.out.c2
  go_upto_region 3 with ((with_reducible refine gate_builtin (b := .append) (xs := #[.tmp 12, .tmp 14]) rfl ?_); at_builtin; go_must (refine Kd.R_append_rows k38 (w0 := w) w.heap.size rfl (.tmp 12) (.tmp 14) 22 38 (.agg #[(.int .i64 0), (.int .i64 0), (.int .i64 0)]) 24 rfl Tryd.underlying22 info38 rfl (by decide) (by omega) _ [] l1 _ _ _ (fun k => W4.heap.size ≤ k) (fun _ => False) rfl rfl ?aO ?aR (fun _ _ h => h) (fun _ h => h.elim) ?aF ?aB ?aS ?aL ?_; (case aO => exact R_none W4 _ (by have := PS.out; omega)); (case aR => exact Kd.C_below H1.out (below_alloc P5.out _)); (case aF => exact fun k hk => by (simp at hk; omega)); (case aB => exact below_alloc P5.out _); (case aS => (have := PS.out; simp; omega)); (case aL => have := HL1.out; simp; omega); intro v1 w1 ho hb hg hat; rw [List.nil_append] at ho; obtain ⟨B1, d1, e0⟩ := Kd.R_slice ho; subst e0; have HO := Aside0.mk ho; have HB1 := Aside0.mk hb; have HR1 := Aside0.mk (Kd.R_grown (Kd.R_alloc P4.out _) hg (fun k hk => own_ne (by have := hk.2; omega))); have HK := Aside0.mk (show ∀ k, k < W4.heap.size → w1.heap[k]? = W4.heap[k]? from fun k hk => (hg.block k (by simp; omega) (own_ne (by omega))).trans ((below_alloc (Below.refl _ _) _).block k hk)); clear ho hb hg hat hx2; have HBK := Aside0.mk (show bookAt w1 w.heap.size t (.slice B0 l0.length d0) (.slice A1 l1.length c1) fl from (HK.out _ P1.out.lt).trans P1.out); have hx2 := HBK.out.c2; have hf2 : w1.frozen? ⟨w.heap.size, 2, none⟩ = false := frozen_of_row _ _ _ _ _ HBK.out))
  obtain ⟨W5, hW5⟩ : ∃ W5, W5 = w1.setCell ⟨w.heap.size, 2, none⟩ (.slice B1 l1.length d1) := ⟨_, rfl⟩
  rw [← hW5]
  have R1 := Aside0.mk (show bookAt W5 w.heap.size t (.slice B0 l0.length d0) (.slice B1 l1.length d1) fl from by rw [hW5]; exact blk_put (cs := #[.int .i64 t, .slice B0 l0.length d0, .slice A1 l1.length c1, .bool fl]) HBK.out 2 _ rfl)
  have R2 := Aside0.mk (show W5.heap[w.heap.size + 1]? = some (.cells #[.int .i64 0, .int .i64 b] 29 (0, 0)) from by rw [hW5, Below.heap_setCell _ _ _ _ (show w.heap.size + 1 ≠ w.heap.size by omega)]; exact (HK.out _ (by have := PS.out; omega)).trans P2.out)
  have R3 := Aside0.mk (show W5.heap[w.heap.size + 1 + 1]? = some (.cells #[.int .i64 0, .slice none 0 0, .slice none 0 0, .bool false] 24 (0, 0)) from by rw [hW5, Below.heap_setCell _ _ _ _ (show w.heap.size + 1 + 1 ≠ w.heap.size by omega)]; exact (HK.out _ (by have := PS.out; omega)).trans P3.out)
  have R4 := Aside0.mk (show Kd.R k38 38 W5 w.heap.size (fun k => w.heap.size + 3 ≤ k ∧ k < W4.heap.size) (.slice B0 l0.length d0) l0 from by
    rw [hW5]
    exact Kd.R_far HR1.out (fun k hk => by have := hk.1; simp; omega) _)
  have R5 := Aside0.mk (show Kd.R k38 38 W5 w.heap.size (fun k => W4.heap.size ≤ k) (.slice B1 l1.length d1) l1 from by
    rw [hW5]
    exact Kd.R_far HO.out (fun k hk => by have := PS.out; simp; omega) _)
  have R6 := Aside0.mk (show Below w.heap.size w W5 from by rw [hW5]; exact HB1.out.setCell (Nat.le_refl _) _)
  clear hW5 HBK hx2 hf2 HO HB1 HK HR1 P1 P2 P3 P4 P5
  have hy0 : W5.cell? ⟨w.heap.size + 1, 0, none⟩ = some (.int .i64 0) := by rw [cell_of_row _ _ _ _ _ _ R2.out]; rfl
  have hy1 : W5.cell? ⟨w.heap.size + 1, 1, none⟩ = some (.int .i64 b) := by rw [cell_of_row _ _ _ _ _ _ R2.out]; rfl
  obtain ⟨g, cg, eg, hg1, hg2, _⟩ := Kd.R_form R4.out (by have := HBI.out; omega)
  injection eg with eg1 eg2 eg3
  subst eg1 eg3
  have hE' : ∀ (args : Array Value) (w : World), Sem.run Tryd.prog (callFunc fid args) w = .ok (.enter fid args) w := hE
  go_wp2_with (go_at_call 55; refine (state_map_own W5 w.heap.size t g _ _ _ fl b R1.out HBI.out).mono ?_; rintro e W6 ⟨rfl, hB6⟩; have S1 := Aside0.mk (R1.out.below hB6 R1.out.lt); have S2 := Aside0.mk ((hB6.block _ (Array.getElem?_eq_some_iff.1 R3.out).1).trans R3.out); have S4 := Aside0.mk (Kd.R_below R4.out hB6); have S5 := Aside0.mk (Kd.R_below R5.out hB6); have S6 := Aside0.mk (below_step R6.out hB6); clear R1 R2 R3 R4 R5 R6 hB6 hy0 hy1)
  have hgo := S4.out.1 g rfl
  have hps := PS.out
  have hbi := HBI.out
  refine (HDO.out W6 w.heap.size g (b * 3) _ _ S1.out (taskAt_own S4.out b HBI.out) (by omega) (by omega) S6.out).mono ?_
  rintro e W7 ⟨rfl, q, hW7⟩
  have T1 := Aside0.mk (show bookAt W7 w.heap.size t _ _ fl' from by rw [hW7]; exact book_put4 S1.out s' fl' (by omega))
  have T2 := Aside0.mk (show W7.heap[w.heap.size + 1 + 1]? = some (.cells #[.int .i64 0, .slice none 0 0, .slice none 0 0, .bool false] 24 (0, 0)) from by
    rw [hW7]
    exact (put4_heap W6 g (b * 3) s' w.heap.size fl' _ (by omega) (by omega)).trans S2.out)
  have T4 := Aside0.mk (show Kd.R k38 38 W7 w.heap.size (fun k => w.heap.size + 3 ≤ k ∧ k < W4.heap.size) _ (l0.set b s') from by
    rw [hW7]
    exact Kd.R_drewN (R_put4 S4.out b hbi s' fl' (fun h => by have := h.1; omega)) q)
  have T5 := Aside0.mk (show Kd.R k38 38 W7 w.heap.size (fun k => W4.heap.size ≤ k) _ l1 from by
    rw [hW7]
    exact Kd.R_drewN (R_put4_far S5.out s' fl' (fun h => by have := hgo.2; omega) (fun h => by omega)) q)
  have T6 := Aside0.mk (show Below w.heap.size w W7 from by rw [hW7]; exact pw_below_drewN (below_put4 S6.out s' fl' (by omega) (Nat.le_refl _)) q)
  clear hW7 S1 S2 S4 S5 S6
  have hz0 := T1.out.c0
  have hz1 := T1.out.c1
  have hz2 := T1.out.c2
  have hz3 := T1.out.c3
  have hc0 : W7.cell? ⟨w.heap.size + 1 + 1, 0, none⟩ = some (.int .i64 0) := by rw [cell_of_row _ _ _ _ _ _ T2.out]; rfl
  have hc1 : W7.cell? ⟨w.heap.size + 1 + 1, 1, none⟩ = some (.slice none 0 0) := by rw [cell_of_row _ _ _ _ _ _ T2.out]; rfl
  have hc2 : W7.cell? ⟨w.heap.size + 1 + 1, 2, none⟩ = some (.slice none 0 0) := by rw [cell_of_row _ _ _ _ _ _ T2.out]; rfl
  have hc3 : W7.cell? ⟨w.heap.size + 1 + 1, 3, none⟩ = some (.bool false) := by rw [cell_of_row _ _ _ _ _ _ T2.out]; rfl
  have hf0 : W7.frozen? ⟨w.heap.size + 1 + 1, 0, none⟩ = false := frozen_of_row _ _ _ _ _ T2.out
  have hf1 : W7.frozen? ⟨w.heap.size + 1 + 1, 1, none⟩ = false := frozen_of_row _ _ _ _ _ T2.out
  have hf2 : W7.frozen? ⟨w.heap.size + 1 + 1, 2, none⟩ = false := frozen_of_row _ _ _ _ _ T2.out
  have hf3 : W7.frozen? ⟨w.heap.size + 1 + 1, 3, none⟩ = false := frozen_of_row _ _ _ _ _ T2.out
  clear hgo hps hbi
  go_wp2_with fail
  refine bodyPost_ret (results_cell_row rfl _ _ (w.heap.size + 1 + 1) 24 #[.int .i64 t, .slice (some ⟨g, 0, none⟩) l0.length d0, .slice B1 l1.length d1, .bool fl'] (0, 0) _ rfl (by refine blk_put (cs := #[.int .i64 t, .slice (some ⟨g, 0, none⟩) l0.length d0, .slice B1 l1.length d1, .bool false]) ?_ 3 _ rfl; refine blk_put (cs := #[.int .i64 t, .slice (some ⟨g, 0, none⟩) l0.length d0, .slice none 0 0, .bool false]) ?_ 2 _ rfl; refine blk_put (cs := #[.int .i64 t, .slice none 0 0, .slice none 0 0, .bool false]) ?_ 1 _ rfl; refine blk_put (cs := #[.int .i64 0, .slice none 0 0, .slice none 0 0, .bool false]) ?_ 0 _ rfl; exact T2.out) Tryd.underlying24 rfl (by kernel_rfl)) rfl ?_
  have hps := PS.out
  refine ⟨_, _, rfl, ?_, ?_, (((T6.out.setCell (by simp; omega) _).setCell (by simp; omega) _).setCell (by simp; omega) _).setCell (by simp; omega) _⟩
  · exact Kd.R_mono (Kd.R_far (p := ⟨w.heap.size + 1 + 1, 3, none⟩) (Kd.R_far (p := ⟨w.heap.size + 1 + 1, 2, none⟩) (Kd.R_far (p := ⟨w.heap.size + 1 + 1, 1, none⟩) (Kd.R_far (p := ⟨w.heap.size + 1 + 1, 0, none⟩) T4.out (fun k hk => by have := hk.1; simp; omega) _) (fun k hk => by have := hk.1; simp; omega) _) (fun k hk => by have := hk.1; simp; omega) _) (fun k hk => by have := hk.1; simp; omega) _) (fun k hk e => by have := T5.out.1 k e.symm; have := hk.2; omega)
  · exact Kd.R_mono (Kd.R_far (p := ⟨w.heap.size + 1 + 1, 3, none⟩) (Kd.R_far (p := ⟨w.heap.size + 1 + 1, 2, none⟩) (Kd.R_far (p := ⟨w.heap.size + 1 + 1, 1, none⟩) (Kd.R_far (p := ⟨w.heap.size + 1 + 1, 0, none⟩) T5.out (fun k hk => by simp; omega) _) (fun k hk => by simp; omega) _) (fun k hk => by simp; omega) _) (fun k hk => by simp; omega) _) (fun k hk e => by have := (T4.out.1 k e.symm).2; omega)

set_option maxHeartbeats 4000000 in
set_option maxRecDepth 100000 in
theorem changed_red (fid : Nat) (cap : Array Value) (hE : Enters Tryd.prog fid) (t : Int) (fl : Bool) (A0 : Option Addr) (c0 : Nat) (l0 : List S38) (A1 : Option Addr) (c1 : Nat) (l1 : List S38) (b : Nat) (s' : S38) (fl' : Bool) (w : World)
    (h0 : Kd.C k38 w A0 l0.length l0) (h1 : Kd.C k38 w A1 l1.length l1) (hl0 : l0.length ≤ 100000) (hl1 : l1.length ≤ 100000) (hb : b < l1.length)
    (hdo : ∀ (W : World) (gb gs off : Nat) (u0 u1 : Value), bookAt W gb t u0 u1 fl → taskAt W gs off (rd_T38 l1 (b : Int)) → gs ≠ gb → w.heap.size ≤ gs → Below w.heap.size w W →
      Calls Tryd.prog fid (#[.pointer (some ⟨gb, 0, none⟩), .pointer (some ⟨gs, off, none⟩)] ++ cap) W fun e w' => e = .returned (.tuple #[]) ∧ ∃ q, w' = (put4 W gs off s' gb fl').drewN q) :
    Calls Tryd.prog 56 #[.agg #[.int .i64 t, .slice A0 l0.length c0, .slice A1 l1.length c1, .bool fl], .agg #[.int .i64 1, .int .i64 b], .func (.func fid) #[] cap] w fun e w' =>
      ∃ v1 v2 : Value, e = .returned (.agg #[.int .i64 t, v1, v2, .bool fl']) ∧ Kd.R k38 38 w' w.heap.size (fun k => some k ≠ v2.ownBlock) v1 l0 ∧ Kd.R k38 38 w' w.heap.size (fun k => some k ≠ v1.ownBlock) v2 (l1.set b s') ∧ Below w.heap.size w w' := by
  have H0 := Aside0.mk h0
  have H1 := Aside0.mk h1
  have HL0 := Aside0.mk hl0
  have HL1 := Aside0.mk hl1
  have HBI := Aside0.mk hb
  have HDO := Aside0.mk hdo
  clear h0 h1 hl0 hl1 hb hdo
  have hu22 := Tryd.underlying22
  have hu29 := Tryd.underlying29
  have hu24 := Tryd.underlying24
  have hu38 := Tryd.underlying38
  have hw3 : ∃ W3, W3 = ((w.alloc (.cells #[.int .i64 t, .slice A0 l0.length c0, .slice A1 l1.length c1, .bool fl] 24)).alloc (.cells #[.int .i64 1, .int .i64 b] 29)).alloc (.cells #[.int .i64 0, .slice none 0 0, .slice none 0 0, .bool false] 24) := ⟨_, rfl⟩
  obtain ⟨W3, hW3⟩ := hw3
  have q0 : Below w.heap.size w W3 := by rw [hW3]; exact below_alloc (below_alloc (below_alloc (Below.refl _ _) _) _) _
  have q1 : W3.heap.size = w.heap.size + 3 := by rw [hW3]; simp
  have q2 : bookAt W3 w.heap.size t (.slice A0 l0.length c0) (.slice A1 l1.length c1) fl := by
    rw [hW3]
    have e1 := heap_alloc_new w (.cells #[.int .i64 t, .slice A0 l0.length c0, .slice A1 l1.length c1, .bool fl] 24)
    exact ((below_alloc (below_alloc (Below.refl _ _) _) _).block w.heap.size (by simp)).trans e1
  have q3 : W3.heap[w.heap.size + 1]? = some (.cells #[.int .i64 1, .int .i64 b] 29 (0, 0)) := by
    rw [hW3]
    have e1 := heap_alloc_new (w.alloc (.cells #[.int .i64 t, .slice A0 l0.length c0, .slice A1 l1.length c1, .bool fl] 24)) (.cells #[.int .i64 1, .int .i64 b] 29)
    rw [show (w.alloc (.cells #[.int .i64 t, .slice A0 l0.length c0, .slice A1 l1.length c1, .bool fl] 24)).heap.size = w.heap.size + 1 from by simp] at e1
    exact ((below_alloc (Below.refl _ _) _).block (w.heap.size + 1) (by simp)).trans e1
  have q4 : W3.heap[w.heap.size + 1 + 1]? = some (.cells #[.int .i64 0, .slice none 0 0, .slice none 0 0, .bool false] 24 (0, 0)) := by
    rw [hW3]
    have e1 := heap_alloc_new ((w.alloc (.cells #[.int .i64 t, .slice A0 l0.length c0, .slice A1 l1.length c1, .bool fl] 24)).alloc (.cells #[.int .i64 1, .int .i64 b] 29)) (.cells #[.int .i64 0, .slice none 0 0, .slice none 0 0, .bool false] 24)
    rw [show ((w.alloc (.cells #[.int .i64 t, .slice A0 l0.length c0, .slice A1 l1.length c1, .bool fl] 24)).alloc (.cells #[.int .i64 1, .int .i64 b] 29)).heap.size = w.heap.size + 1 + 1 from by simp] at e1
    exact e1
  have Q0 := Aside0.mk q0
  have Q1 := Aside0.mk q1
  have Q2 := Aside0.mk q2
  have Q3 := Aside0.mk q3
  have Q4 := Aside0.mk q4
  have HW3 := Aside0.mk hW3
  clear q0 q1 q2 q3 q4 hW3
  go_enter Tryd.func56, Tryd.ntmps56
  go_upto_region 1 with (fail)
  rw [← HW3.out]
  clear HW3
  have hx1 : (W3.alloc (.cells #[] 38)).cell? ⟨w.heap.size, 1, none⟩ = some (.slice A0 l0.length c0) := ((below_alloc (Below.refl _ _) _).cell Q2.out.lt).trans Q2.out.c1
  go_upto_region 2 with ((with_reducible refine gate_builtin (b := .append) (xs := #[.tmp 7, .tmp 9]) rfl ?_); at_builtin; go_must (refine Kd.R_append_rows k38 (w0 := w) w.heap.size rfl (.tmp 7) (.tmp 9) 22 38 (.agg #[(.int .i64 0), (.int .i64 0), (.int .i64 0)]) 24 rfl Tryd.underlying22 info38 rfl (by decide) (by omega) _ [] l0 _ _ _ (fun k => w.heap.size + 3 ≤ k) (fun _ => False) rfl rfl ?aO ?aR (fun _ _ h => h) (fun _ h => h.elim) ?aF ?aB ?aS ?aL ?_; (case aO => exact Kd.R_mono (R_none W3 _ (by have := Q1.out; omega)) (fun k hk => by have := Q1.out; omega)); (case aR => exact Kd.C_below H0.out (below_alloc Q0.out _)); (case aF => exact fun k hk => by (have := Q1.out; simp at hk; omega)); (case aB => exact below_alloc Q0.out _); (case aS => (have := Q1.out; simp; omega)); (case aL => have := HL0.out; simp; omega); intro v1 w1 ho hb hg hat; rw [List.nil_append] at ho; obtain ⟨B0, d0, e0⟩ := Kd.R_slice ho; subst e0; have HO := Aside0.mk ho; have HB1 := Aside0.mk hb; have HK := Aside0.mk (show ∀ k, k < W3.heap.size → w1.heap[k]? = W3.heap[k]? from fun k hk => (hg.block k (by simp; omega) (own_ne (by omega))).trans ((below_alloc (Below.refl _ _) _).block k hk)); clear ho hb hg hat hx1; have HBK := Aside0.mk (show bookAt w1 w.heap.size t (.slice A0 l0.length c0) (.slice A1 l1.length c1) fl from (HK.out _ (by have := Q1.out; omega)).trans Q2.out); have hx1 := HBK.out.c1; have hf1 : w1.frozen? ⟨w.heap.size, 1, none⟩ = false := frozen_of_row _ _ _ _ _ HBK.out))
  obtain ⟨W4, hW4⟩ : ∃ W4, W4 = w1.setCell ⟨w.heap.size, 1, none⟩ (.slice B0 l0.length d0) := ⟨_, rfl⟩
  rw [← hW4]
  have P1 := Aside0.mk (show bookAt W4 w.heap.size t (.slice B0 l0.length d0) (.slice A1 l1.length c1) fl from by rw [hW4]; exact blk_put (cs := #[.int .i64 t, .slice A0 l0.length c0, .slice A1 l1.length c1, .bool fl]) HBK.out 1 _ rfl)
  have PS := Aside0.mk (show w.heap.size + 3 ≤ W4.heap.size from by
    have h1 := HBK.out.lt
    have h2 := (Array.getElem?_eq_some_iff.1 ((HK.out (w.heap.size + 1 + 1) (by have := Q1.out; omega)).trans Q4.out)).1
    rw [hW4]
    simp
    omega)
  have P2 := Aside0.mk (show W4.heap[w.heap.size + 1]? = some (.cells #[.int .i64 1, .int .i64 b] 29 (0, 0)) from by rw [hW4, Below.heap_setCell _ _ _ _ (show w.heap.size + 1 ≠ w.heap.size by omega)]; exact (HK.out _ (by have := Q1.out; omega)).trans Q3.out)
  have P3 := Aside0.mk (show W4.heap[w.heap.size + 1 + 1]? = some (.cells #[.int .i64 0, .slice none 0 0, .slice none 0 0, .bool false] 24 (0, 0)) from by rw [hW4, Below.heap_setCell _ _ _ _ (show w.heap.size + 1 + 1 ≠ w.heap.size by omega)]; exact (HK.out _ (by have := Q1.out; omega)).trans Q4.out)
  have P4 := Aside0.mk (show Kd.R k38 38 W4 w.heap.size (fun k => w.heap.size + 3 ≤ k ∧ k < W4.heap.size) (.slice B0 l0.length d0) l0 from by
    have e : W4.heap.size = w1.heap.size := by rw [hW4]; simp
    rw [e, hW4]
    exact Kd.R_far (Kd.R_mono (Kd.R_bound HO.out) (fun k hk => ⟨hk.1, hk.2.2.1⟩)) (fun k hk => by have := hk.1; simp; omega) _)
  have P5 := Aside0.mk (show Below w.heap.size w W4 from by rw [hW4]; exact HB1.out.setCell (Nat.le_refl _) _)
  clear hW4 HBK hx1 hf1 HO HB1 HK Q0 Q1 Q2 Q3 Q4
  have hx2 : (W4.alloc (.cells #[] 38)).cell? ⟨w.heap.size, 2, none⟩ = some (.slice A1 l1.length c1) := ((below_alloc (Below.refl _ _) _).cell P1.out.lt).trans P1.out.c2
  go_upto_region 3 with ((with_reducible refine gate_builtin (b := .append) (xs := #[.tmp 12, .tmp 14]) rfl ?_); at_builtin; go_must (refine Kd.R_append_rows k38 (w0 := w) w.heap.size rfl (.tmp 12) (.tmp 14) 22 38 (.agg #[(.int .i64 0), (.int .i64 0), (.int .i64 0)]) 24 rfl Tryd.underlying22 info38 rfl (by decide) (by omega) _ [] l1 _ _ _ (fun k => W4.heap.size ≤ k) (fun _ => False) rfl rfl ?aO ?aR (fun _ _ h => h) (fun _ h => h.elim) ?aF ?aB ?aS ?aL ?_; (case aO => exact R_none W4 _ (by have := PS.out; omega)); (case aR => exact Kd.C_below H1.out (below_alloc P5.out _)); (case aF => exact fun k hk => by (simp at hk; omega)); (case aB => exact below_alloc P5.out _); (case aS => (have := PS.out; simp; omega)); (case aL => have := HL1.out; simp; omega); intro v1 w1 ho hb hg hat; rw [List.nil_append] at ho; obtain ⟨B1, d1, e0⟩ := Kd.R_slice ho; subst e0; have HO := Aside0.mk ho; have HB1 := Aside0.mk hb; have HR1 := Aside0.mk (Kd.R_grown (Kd.R_alloc P4.out _) hg (fun k hk => own_ne (by have := hk.2; omega))); have HK := Aside0.mk (show ∀ k, k < W4.heap.size → w1.heap[k]? = W4.heap[k]? from fun k hk => (hg.block k (by simp; omega) (own_ne (by omega))).trans ((below_alloc (Below.refl _ _) _).block k hk)); clear ho hb hg hat hx2; have HBK := Aside0.mk (show bookAt w1 w.heap.size t (.slice B0 l0.length d0) (.slice A1 l1.length c1) fl from (HK.out _ P1.out.lt).trans P1.out); have hx2 := HBK.out.c2; have hf2 : w1.frozen? ⟨w.heap.size, 2, none⟩ = false := frozen_of_row _ _ _ _ _ HBK.out))
  obtain ⟨W5, hW5⟩ : ∃ W5, W5 = w1.setCell ⟨w.heap.size, 2, none⟩ (.slice B1 l1.length d1) := ⟨_, rfl⟩
  rw [← hW5]
  have R1 := Aside0.mk (show bookAt W5 w.heap.size t (.slice B0 l0.length d0) (.slice B1 l1.length d1) fl from by rw [hW5]; exact blk_put (cs := #[.int .i64 t, .slice B0 l0.length d0, .slice A1 l1.length c1, .bool fl]) HBK.out 2 _ rfl)
  have R2 := Aside0.mk (show W5.heap[w.heap.size + 1]? = some (.cells #[.int .i64 1, .int .i64 b] 29 (0, 0)) from by rw [hW5, Below.heap_setCell _ _ _ _ (show w.heap.size + 1 ≠ w.heap.size by omega)]; exact (HK.out _ (by have := PS.out; omega)).trans P2.out)
  have R3 := Aside0.mk (show W5.heap[w.heap.size + 1 + 1]? = some (.cells #[.int .i64 0, .slice none 0 0, .slice none 0 0, .bool false] 24 (0, 0)) from by rw [hW5, Below.heap_setCell _ _ _ _ (show w.heap.size + 1 + 1 ≠ w.heap.size by omega)]; exact (HK.out _ (by have := PS.out; omega)).trans P3.out)
  have R4 := Aside0.mk (show Kd.R k38 38 W5 w.heap.size (fun k => w.heap.size + 3 ≤ k ∧ k < W4.heap.size) (.slice B0 l0.length d0) l0 from by
    rw [hW5]
    exact Kd.R_far HR1.out (fun k hk => by have := hk.1; simp; omega) _)
  have R5 := Aside0.mk (show Kd.R k38 38 W5 w.heap.size (fun k => W4.heap.size ≤ k) (.slice B1 l1.length d1) l1 from by
    rw [hW5]
    exact Kd.R_far HO.out (fun k hk => by have := PS.out; simp; omega) _)
  have R6 := Aside0.mk (show Below w.heap.size w W5 from by rw [hW5]; exact HB1.out.setCell (Nat.le_refl _) _)
  clear hW5 HBK hx2 hf2 HO HB1 HK HR1 P1 P2 P3 P4 P5
  have hy0 : W5.cell? ⟨w.heap.size + 1, 0, none⟩ = some (.int .i64 1) := by rw [cell_of_row _ _ _ _ _ _ R2.out]; rfl
  have hy1 : W5.cell? ⟨w.heap.size + 1, 1, none⟩ = some (.int .i64 b) := by rw [cell_of_row _ _ _ _ _ _ R2.out]; rfl
  obtain ⟨g, cg, eg, hg1, hg2, _⟩ := Kd.R_form R5.out (by have := HBI.out; omega)
  injection eg with eg1 eg2 eg3
  subst eg1 eg3
  have hE' : ∀ (args : Array Value) (w : World), Sem.run Tryd.prog (callFunc fid args) w = .ok (.enter fid args) w := hE
  go_wp2_with (go_at_call 55; refine (state_red_own W5 w.heap.size t g _ _ _ fl b R1.out HBI.out).mono ?_; rintro e W6 ⟨rfl, hB6⟩; have S1 := Aside0.mk (R1.out.below hB6 R1.out.lt); have S2 := Aside0.mk ((hB6.block _ (Array.getElem?_eq_some_iff.1 R3.out).1).trans R3.out); have S4 := Aside0.mk (Kd.R_below R4.out hB6); have S5 := Aside0.mk (Kd.R_below R5.out hB6); have S6 := Aside0.mk (below_step R6.out hB6); clear R1 R2 R3 R4 R5 R6 hB6 hy0 hy1)
  have hgo := S5.out.1 g rfl
  have hps := PS.out
  have hbi := HBI.out
  refine (HDO.out W6 w.heap.size g (b * 3) _ _ S1.out (taskAt_own S5.out b HBI.out) (by omega) (by omega) S6.out).mono ?_
  rintro e W7 ⟨rfl, q, hW7⟩
  have T1 := Aside0.mk (show bookAt W7 w.heap.size t _ _ fl' from by rw [hW7]; exact book_put4 S1.out s' fl' (by omega))
  have T2 := Aside0.mk (show W7.heap[w.heap.size + 1 + 1]? = some (.cells #[.int .i64 0, .slice none 0 0, .slice none 0 0, .bool false] 24 (0, 0)) from by
    rw [hW7]
    exact (put4_heap W6 g (b * 3) s' w.heap.size fl' _ (by omega) (by omega)).trans S2.out)
  have T4 := Aside0.mk (show Kd.R k38 38 W7 w.heap.size (fun k => w.heap.size + 3 ≤ k ∧ k < W4.heap.size) _ l0 from by
    rw [hW7]
    exact Kd.R_drewN (R_put4_far S4.out s' fl' (fun h => by have := h.2; omega) (fun h => by have := h.1; omega)) q)
  have T5 := Aside0.mk (show Kd.R k38 38 W7 w.heap.size (fun k => W4.heap.size ≤ k) _ (l1.set b s') from by
    rw [hW7]
    exact Kd.R_drewN (R_put4 S5.out b hbi s' fl' (fun h => by omega)) q)
  have T6 := Aside0.mk (show Below w.heap.size w W7 from by rw [hW7]; exact pw_below_drewN (below_put4 S6.out s' fl' (by omega) (Nat.le_refl _)) q)
  clear hW7 S1 S2 S4 S5 S6
  have hz0 := T1.out.c0
  have hz1 := T1.out.c1
  have hz2 := T1.out.c2
  have hz3 := T1.out.c3
  have hc0 : W7.cell? ⟨w.heap.size + 1 + 1, 0, none⟩ = some (.int .i64 0) := by rw [cell_of_row _ _ _ _ _ _ T2.out]; rfl
  have hc1 : W7.cell? ⟨w.heap.size + 1 + 1, 1, none⟩ = some (.slice none 0 0) := by rw [cell_of_row _ _ _ _ _ _ T2.out]; rfl
  have hc2 : W7.cell? ⟨w.heap.size + 1 + 1, 2, none⟩ = some (.slice none 0 0) := by rw [cell_of_row _ _ _ _ _ _ T2.out]; rfl
  have hc3 : W7.cell? ⟨w.heap.size + 1 + 1, 3, none⟩ = some (.bool false) := by rw [cell_of_row _ _ _ _ _ _ T2.out]; rfl
  have hf0 : W7.frozen? ⟨w.heap.size + 1 + 1, 0, none⟩ = false := frozen_of_row _ _ _ _ _ T2.out
  have hf1 : W7.frozen? ⟨w.heap.size + 1 + 1, 1, none⟩ = false := frozen_of_row _ _ _ _ _ T2.out
  have hf2 : W7.frozen? ⟨w.heap.size + 1 + 1, 2, none⟩ = false := frozen_of_row _ _ _ _ _ T2.out
  have hf3 : W7.frozen? ⟨w.heap.size + 1 + 1, 3, none⟩ = false := frozen_of_row _ _ _ _ _ T2.out
  clear hgo hps hbi
  go_wp2_with fail
  refine bodyPost_ret (results_cell_row rfl _ _ (w.heap.size + 1 + 1) 24 #[.int .i64 t, .slice B0 l0.length d0, .slice (some ⟨g, 0, none⟩) l1.length d1, .bool fl'] (0, 0) _ rfl (by refine blk_put (cs := #[.int .i64 t, .slice B0 l0.length d0, .slice (some ⟨g, 0, none⟩) l1.length d1, .bool false]) ?_ 3 _ rfl; refine blk_put (cs := #[.int .i64 t, .slice B0 l0.length d0, .slice none 0 0, .bool false]) ?_ 2 _ rfl; refine blk_put (cs := #[.int .i64 t, .slice none 0 0, .slice none 0 0, .bool false]) ?_ 1 _ rfl; refine blk_put (cs := #[.int .i64 0, .slice none 0 0, .slice none 0 0, .bool false]) ?_ 0 _ rfl; exact T2.out) Tryd.underlying24 rfl (by kernel_rfl)) rfl ?_
  have hps := PS.out
  refine ⟨_, _, rfl, ?_, ?_, (((T6.out.setCell (by simp; omega) _).setCell (by simp; omega) _).setCell (by simp; omega) _).setCell (by simp; omega) _⟩
  · exact Kd.R_mono (Kd.R_far (p := ⟨w.heap.size + 1 + 1, 3, none⟩) (Kd.R_far (p := ⟨w.heap.size + 1 + 1, 2, none⟩) (Kd.R_far (p := ⟨w.heap.size + 1 + 1, 1, none⟩) (Kd.R_far (p := ⟨w.heap.size + 1 + 1, 0, none⟩) T4.out (fun k hk => by have := hk.1; simp; omega) _) (fun k hk => by have := hk.1; simp; omega) _) (fun k hk => by have := hk.1; simp; omega) _) (fun k hk => by have := hk.1; simp; omega) _) (fun k hk e => by have := T5.out.1 k e.symm; have := hk.2; omega)
  · exact Kd.R_mono (Kd.R_far (p := ⟨w.heap.size + 1 + 1, 3, none⟩) (Kd.R_far (p := ⟨w.heap.size + 1 + 1, 2, none⟩) (Kd.R_far (p := ⟨w.heap.size + 1 + 1, 1, none⟩) (Kd.R_far (p := ⟨w.heap.size + 1 + 1, 0, none⟩) T5.out (fun k hk => by simp; omega) _) (fun k hk => by simp; omega) _) (fun k hk => by simp; omega) _) (fun k hk => by simp; omega) _) (fun k hk e => by have := (T4.out.1 k e.symm).2; omega)
end Go.Proofs.YtponmfnegdlppaaDoor.P

end
section
/- ledger.known, by hand (printed by HKnown.gen.py). -/
namespace Go.Proofs.YtponmfnegdlppaaDoor.P
open Go.RowKit Go.Proofs.YtponmfnegdlppaaDoorW.PrintWords Go.Proofs.YtponmfnegdlppaaDoorW.PrintLast Go.Proofs.YtponmfnegdlppaaDoorW.PrintMore
set_option linter.unusedVariables false
set_option linter.unusedSimpArgs false

def roomT (n0 n1 : Nat) (k : Int) : Int := if k = 0 then (n0 : Int) else if k = 1 then (n1 : Int) else 0
def okT (n0 n1 : Nat) (x : S29) : Bool := !(decide (x.f1 < 0)) && !(decide (roomT n0 n1 x.f0 ≤ x.f1))
def scanT (n0 n1 : Nat) : List S29 → Int
  | [] => 0
  | x :: l => if okT n0 n1 x = true then scanT n0 n1 l else 191
def knownP (t : Int) (l0 l1 : List S38) (fl : Bool) (ts : List S29) : Int := if checkP t l0 l1 fl = 0 then scanT l0.length l1.length ts else checkP t l0 l1 fl
theorem rd29 (l : List S29) (i : Nat) (h : i < l.length) : rd_T29 l (i : Int) = l[i] := by
  unfold rd_T29
  rw [Int.toNat_natCast, List.getD_eq_getElem?_getD, List.getElem?_eq_getElem h]
  rfl
theorem drop29 (l : List S29) (i : Nat) (h : i < l.length) : l.drop i = rd_T29 l (i : Int) :: l.drop (i + 1) := by
  rw [rd29 l i h]
  exact List.drop_eq_getElem_cons h

set_option maxHeartbeats 4000000 in
set_option maxRecDepth 100000 in
theorem known_any (t : Int) (fl : Bool) (A0 : Option Addr) (c0 : Nat) (l0 : List S38) (A1 : Option Addr) (c1 : Nat) (l1 : List S38) (A : Option Addr) (c : Nat) (ts : List S29) (w : World) (h0 : Kd.C k38 w A0 l0.length l0) (h1 : Kd.C k38 w A1 l1.length l1) (hts : Kd.C k29 w A ts.length ts) (hl : ts.length ≤ 100) (hl0 : l0.length ≤ 6000000000000) (hl1 : l1.length ≤ 6000000000000) (hT : Tab w) :
    Calls Tryd.prog 54 #[.agg #[.int .i64 t, .slice A0 l0.length c0, .slice A1 l1.length c1, .bool fl], .slice A ts.length c] w fun e w' => e = .returned (.int .i64 (knownP t l0 l1 fl ts)) ∧ Below w.heap.size w w' := by
  have hba := below_alloc (Below.refl w.heap.size w) (.cells #[.int .i64 t, .slice A0 l0.length c0, .slice A1 l1.length c1, .bool fl] 24)
  have hbk : bookAt (w.alloc (.cells #[.int .i64 t, .slice A0 l0.length c0, .slice A1 l1.length c1, .bool fl] 24)) w.heap.size t (.slice A0 l0.length c0) (.slice A1 l1.length c1) fl := heap_alloc_new w _
  have hcall := check_any t fl A0 c0 l0 A1 c1 l1 (w.alloc (.cells #[.int .i64 t, .slice A0 l0.length c0, .slice A1 l1.length c1, .bool fl] 24)) (Kd.C_below h0 hba) (Kd.C_below h1 hba) (hT.below hba)
  have HCA := Aside0.mk hcall
  have HBA := Aside0.mk hba
  have HBK := Aside0.mk hbk
  have HTS := Aside0.mk hts
  obtain ⟨r, hr⟩ : ∃ r, knownP t l0 l1 fl ts = r := ⟨_, rfl⟩
  rw [hr]
  have HR := Aside0.mk hr
  clear hcall hba hbk hts h0 h1 hT hr
  generalize hn0 : l0.length = n0 at *
  generalize hn1 : l1.length = n1 at *
  generalize hnt : ts.length = nt at *
  have HN0 := Aside0.mk hn0
  have HN1 := Aside0.mk hn1
  have HNT := Aside0.mk hnt
  clear hn0 hn1 hnt
  have hu22 := Tryd.underlying22
  have hu38 := Tryd.underlying38
  have hu24 := Tryd.underlying24
  have hu26 := Tryd.underlying26
  have hu29 := Tryd.underlying29
  have hz0 := HBK.out.c0
  have hz1 := HBK.out.c1
  have hz2 := HBK.out.c2
  have hz3 := HBK.out.c3
  by_cases hc : checkP t l0 l1 fl = 0
  · have hr := HR.out
    unfold knownP at hr
    rw [if_pos hc, HN0.out, HN1.out] at hr
    have hcall := HCA.out
    rw [hc] at hcall
    have HCA2 := Aside0.mk hcall
    have HR2 := Aside0.mk hr
    clear hr hcall hc HCA HR
    go_enter Tryd.func54, Tryd.ntmps54
    go_wp2_with (go_at_call 15; refine HCA2.out.mono ?_; rintro e W2 ⟨rfl, hB2⟩; have HB2 := Aside0.mk (HBK.out.below hB2 HBK.out.lt); have HA2 := Aside0.mk (below_step HBA.out hB2); clear hB2 HBK HBA hz0 hz1 hz2 hz3)
    clear HCA2
    go_loopw [16] (fun vi wr => ∃ i : Nat, i ≤ nt ∧ vi = .int .i64 i ∧ Aside0 (scanT n0 n1 (ts.drop i) = r) ∧ Aside0 (bookAt wr w.heap.size t (.slice A0 n0 c0) (.slice A1 n1 c1) fl) ∧ Aside0 (Below w.heap.size w wr)) (fun vi _ => nt - (intOf vi).toNat)
    case atStart => exact ⟨0, by omega, rfl, by rw [List.drop_zero]; exact HR2, HB2, HA2⟩
    case round =>
      clear HR2 HB2 HA2
      obtain ⟨i, hi, rfl, HR, HBK, HBA⟩ := hrel
      by_cases hlt : i < nt
      · have hd1 : decide ((i : Int) < (nt : Int)) = true := by simp; omega
        have hd2 : decide (i < nt) = true := by simp; omega
        have hr := HR.out
        have hil : i < ts.length := by have := HNT.out; omega
        rw [drop29 ts i hil] at hr
        obtain ⟨ad, e, hx0, hx1⟩ := at_T29 HTS.out (i : Int) (by omega) (by have := HNT.out; omega)
        subst e
        generalize rd_T29 ts (i : Int) = s at *
        rw [Int.toNat_natCast] at hx0 hx1
        replace hx0 := (HBA.out.cell (World.block_lt_of_cell? w _ hx0)).trans hx0
        replace hx1 := (HBA.out.cell (World.block_lt_of_cell? w _ hx1)).trans hx1
        have HS := Aside0.mk hr
        obtain ⟨k, b⟩ := s
        dsimp only at *
        have hbk := HBK.out
        have hba := HBA.out
        have hya := below_alloc (Below.refl wr.heap.size wr) (.cells #[.int .i64 k, .int .i64 b] 29)
        have HB2 := Aside0.mk (hbk.below hya hbk.lt)
        have HA2 := Aside0.mk (below_step hba hya)
        have hq1 := HB2.out.c1
        have hq2 := HB2.out.c2
        clear hr hya hbk hba HR
        by_cases g0 : k = 0
        · have e0 : (k == 0) = true := by simp; omega
          have hrm : roomT n0 n1 k = (n0 : Int) := by unfold roomT; rw [if_pos g0]
          by_cases b1 : b < 0
          · have d1 : decide (b < 0) = true := decide_eq_true b1
            have hr := HS.out
            have hg : okT n0 n1 ⟨k, b⟩ = false := by unfold okT; rw [hrm]; simp <;> omega
            rw [scanT, if_neg (by rw [hg]; decide)] at hr
            subst hr
            clear HS hg hrm g0
            go_wp2_with fail
            go_ret
            exact ⟨rfl, HA2.out⟩
          have d1 : decide (b < 0) = false := decide_eq_false b1
          by_cases b2 : (n0 : Int) ≤ b
          · have d2 : decide ((n0 : Int) ≤ b) = true := decide_eq_true b2
            have hr := HS.out
            have hg : okT n0 n1 ⟨k, b⟩ = false := by unfold okT; rw [hrm]; simp <;> omega
            rw [scanT, if_neg (by rw [hg]; decide)] at hr
            subst hr
            clear HS hg hrm g0
            go_wp2_with fail
            go_ret
            exact ⟨rfl, HA2.out⟩
          have d2 : decide ((n0 : Int) ≤ b) = false := decide_eq_false b2
          have hr := HS.out
          have hg : okT n0 n1 ⟨k, b⟩ = true := by unfold okT; rw [hrm]; simp <;> omega
          rw [scanT, if_pos hg] at hr
          have HR2 := Aside0.mk hr
          clear hr hg HS hrm b1 b2 g0
          go_wp2_with fail
          go_roundw
          case rel => exact ⟨i + 1, by omega, by go_num, HR2, HB2, HA2⟩
          case measure => simp [intOf]; omega
        · have e0 : (k == 0) = false := by simp; omega
          by_cases g1 : k = 1
          · have e1 : (k == 1) = true := by simp; omega
            have hrm : roomT n0 n1 k = (n1 : Int) := by unfold roomT; rw [if_neg g0, if_pos g1]
            by_cases b1 : b < 0
            · have d1 : decide (b < 0) = true := decide_eq_true b1
              have hr := HS.out
              have hg : okT n0 n1 ⟨k, b⟩ = false := by unfold okT; rw [hrm]; simp <;> omega
              rw [scanT, if_neg (by rw [hg]; decide)] at hr
              subst hr
              clear HS hg hrm g0 g1
              go_wp2_with fail
              go_ret
              exact ⟨rfl, HA2.out⟩
            have d1 : decide (b < 0) = false := decide_eq_false b1
            by_cases b2 : (n1 : Int) ≤ b
            · have d2 : decide ((n1 : Int) ≤ b) = true := decide_eq_true b2
              have hr := HS.out
              have hg : okT n0 n1 ⟨k, b⟩ = false := by unfold okT; rw [hrm]; simp <;> omega
              rw [scanT, if_neg (by rw [hg]; decide)] at hr
              subst hr
              clear HS hg hrm g0 g1
              go_wp2_with fail
              go_ret
              exact ⟨rfl, HA2.out⟩
            have d2 : decide ((n1 : Int) ≤ b) = false := decide_eq_false b2
            have hr := HS.out
            have hg : okT n0 n1 ⟨k, b⟩ = true := by unfold okT; rw [hrm]; simp <;> omega
            rw [scanT, if_pos hg] at hr
            have HR2 := Aside0.mk hr
            clear hr hg HS hrm b1 b2 g0 g1
            go_wp2_with fail
            go_roundw
            case rel => exact ⟨i + 1, by omega, by go_num, HR2, HB2, HA2⟩
            case measure => simp [intOf]; omega
          · have e1 : (k == 1) = false := by simp; omega
            have hrm : roomT n0 n1 k = 0 := by unfold roomT; rw [if_neg g0, if_neg g1]
            by_cases b1 : b < 0
            · have d1 : decide (b < 0) = true := decide_eq_true b1
              have hr := HS.out
              have hg : okT n0 n1 ⟨k, b⟩ = false := by unfold okT; rw [hrm]; simp <;> omega
              rw [scanT, if_neg (by rw [hg]; decide)] at hr
              subst hr
              clear HS hg hrm g0 g1
              go_wp2_with fail
              go_ret
              exact ⟨rfl, HA2.out⟩
            have d1 : decide (b < 0) = false := decide_eq_false b1
            by_cases b2 : 0 ≤ b
            · have d2 : decide (0 ≤ b) = true := decide_eq_true b2
              have hr := HS.out
              have hg : okT n0 n1 ⟨k, b⟩ = false := by unfold okT; rw [hrm]; simp <;> omega
              rw [scanT, if_neg (by rw [hg]; decide)] at hr
              subst hr
              clear HS hg hrm g0 g1
              go_wp2_with fail
              go_ret
              exact ⟨rfl, HA2.out⟩
            have d2 : decide (0 ≤ b) = false := decide_eq_false b2
            have hr := HS.out
            have hg : okT n0 n1 ⟨k, b⟩ = true := by unfold okT; rw [hrm]; simp <;> omega
            rw [scanT, if_pos hg] at hr
            have HR2 := Aside0.mk hr
            clear hr hg HS hrm b1 b2 g0 g1
            go_wp2_with fail
            go_roundw
            case rel => exact ⟨i + 1, by omega, by go_num, HR2, HB2, HA2⟩
            case measure => simp [intOf]; omega
      · obtain rfl : i = nt := by omega
        have hd1 : decide ((i : Int) < (i : Int)) = false := by simp
        have hr := HR.out
        rw [List.drop_eq_nil_of_le (by have := HNT.out; omega)] at hr
        obtain rfl : (0 : Int) = r := hr
        clear HR
        go_wp2_with fail
        go_ret
        exact ⟨rfl, HBA.out⟩
  · have hr := HR.out
    unfold knownP at hr
    rw [if_neg hc] at hr
    have hcall := HCA.out
    rw [hr] at hcall
    have hne : (r != 0) = true := by rw [← hr]; exact bne_iff_ne.2 hc
    have HCA2 := Aside0.mk hcall
    clear hr hcall hc HCA HR
    go_enter Tryd.func54, Tryd.ntmps54
    go_wp2_with (go_at_call 15; refine HCA2.out.mono ?_; rintro e W2 ⟨rfl, hB2⟩; have HA2 := Aside0.mk (below_step HBA.out hB2); clear hB2 HBK HBA hz0 hz1 hz2 hz3)
    go_ret
    exact ⟨rfl, HA2.out⟩
end Go.Proofs.YtponmfnegdlppaaDoor.P

end
