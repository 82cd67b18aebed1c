/- Several texts laid together (wip/tools/merge2.py): Open, Str, P0, Opens, HTab, LedPlain, HCheck, HDo, HChanged, HKnown, HEnded, HDone. -/
import Derived.Test.YtponmfnegdlppaaDoorVC1
import Derived.Test.YtponmfnegdlppaaDoorRows
import Derived.Deep.Slices
import Derived.SizedLaws
import Derived.ProofKit
import Derived.Laws.Strings
import Derived.Laws.Small
import Derived.Test.YtponmfnegdlppaaDoorProg
import Derived.Below
import Derived.Deep.Draws
import Derived.Deep.AppendLies
import Derived.Maps.AppendAt
import Derived.OwnWalk
import Derived.Laws.BytesArg
import Derived.Laws.MakeOwn
import Derived.Laws.OwnMore
import Derived.Deep.OwnRows
import Derived.Tactics
import Derived.Lib.ConvBytes
import Derived.Laws.Slices
import Derived.WalkKit
import Derived.KernelRfl
import Derived.RowKit3
import Derived.Deep.LoopGhost
import Derived.Deep.QuietTactic
import Derived.BigQuiet
import Derived.WideLaws
import Derived.Deep.DeepCutAuto
import Derived.Deep.CutBlock
import Derived.Deep.RegionHeld3
import Derived.Laws.Rows
import Derived.Lib.AppendStr
import Derived.ArgAppend
import Derived.Laws.IdiomCopy
import Derived.OrdersHeld
import Derived.Laws.BitsLemmas
import Derived.RowKit
import Derived.Lib.LaidTab
import Derived.Outline
import Derived.Shelf.Abstract
import Derived.Deep.DeepMust
section
/- What comes in as data is read as a Lean value of its kind, whatever the kind: numbers, bools, strings, structs, slices of these. -/
set_option linter.unusedVariables false
namespace Go.Proofs.YtponmfnegdlppaaDoor.OpenWords
open Go.Deep Go.ChangeShapes Go.WideShapes Go.Proofs.YtponmfnegdlppaaDoorW.PrintWords

/-- What a value of type t reads as: 'ok' is what is known of it, 'bk' what it weighs at least. -/
structure Opens (P : Program) (t : TypeId) {α : Type} (d : Kd α) (ok : α → Prop) (bk : α → Nat) : Prop where
  sz : P.cellsOf t = d.sz
  get : ∀ {H : Type} (enc : TypeId × Value → H) (w : World) (held : Bool) (fuel : Nat) (cs : List Value) (x : DataW H × List MemPlace),
    DataW.trod enc P w 0 (fun _ => true) held fuel t cs = some x → (∀ n ∈ x.1.weights P t, n ≤ reachBytes) →
    ∃ a : α, d.K w a cs ∧ ok a ∧ bk a ≤ Rows.uptoBulk x.1

theorem opens_int {P : Program} {t : TypeId} {k : IntKind} (h : P.underlying t = some (.int k)) (hs : P.cellsOf t = 1) :
    Opens P t (Kd.int k) (fun a => (Lit.int k a).wf = true) (fun _ => 1) where
  sz := hs
  get := by
    intro H enc w held fuel cs x hx _
    obtain ⟨n, rfl, rfl, hw⟩ := DataW.trod_int h hx
    exact ⟨n, rfl, hw, Nat.le_refl _⟩

theorem opens_bool {P : Program} {t : TypeId} (h : P.underlying t = some .bool) (hs : P.cellsOf t = 1) :
    Opens P t Kd.bool (fun _ => True) (fun _ => 1) where
  sz := hs
  get := by
    intro H enc w held fuel cs x hx _
    obtain ⟨n, rfl, rfl⟩ := DataW.trod_bool h hx
    exact ⟨n, rfl, trivial, Nat.le_refl _⟩

theorem opens_string {P : Program} {t : TypeId} (h : P.underlying t = some .string) (hs : P.cellsOf t = 1) :
    Opens P t Kd.string (fun a => a.size ≤ 140737488351232) (fun a => a.size + 1) where
  sz := hs
  get := by
    intro H enc w held fuel cs x hx hw
    obtain ⟨s, rfl, rfl, hl⟩ := DataW.trod_string h hx
    refine ⟨s, rfl, ?_, ?_⟩
    · have := hw s.data.toList.length (by simp [DataW.weights])
      simpa [reachBytes] using this
    · show s.size + 1 ≤ s.data.toList.length + 1
      rw [Array.length_toList]
      exact Nat.le_refl _

/-- Some fields of a struct, from cell 'off' on. -/
structure OpensF (P : Program) (fs : List Field) (off : Nat) {α : Type} (d : Kd α) (ok : α → Prop) (bk : α → Nat) : Prop where
  get : ∀ {H : Type} (enc : TypeId × Value → H) (w : World) (held : Bool) (fuel : Nat) (cs : List Value) (xs : List (DataW H × List MemPlace)),
    cs.length = off + d.sz →
    (fs.mapM fun f => DataW.trod enc P w 0 (fun _ => true) held fuel f.type ((cs.drop f.offset).take (P.cellsOf f.type))) = some xs →
    (∀ n ∈ DataW.weightsEach P (fs.map (·.type)) (xs.map (·.1)), n ≤ reachBytes) →
    ∃ a : α, d.K w a (cs.drop off) ∧ ok a ∧ bk a ≤ Rows.uptoBulkAll (xs.map (·.1))

theorem opensF_one {P : Program} {f : Field} {α : Type} {d : Kd α} {ok : α → Prop} {bk : α → Nat} (h : Opens P f.type d ok bk) : OpensF P [f] f.offset d ok bk where
  get := by
    intro H enc w held fuel cs xs hl hx hw
    rw [List.mapM_cons] at hx
    cases h1 : DataW.trod enc P w 0 (fun _ => true) held fuel f.type ((cs.drop f.offset).take (P.cellsOf f.type)) with
    | none => rw [h1] at hx; simp at hx
    | some x =>
      rw [h1] at hx
      have hx' : some [x] = some xs := hx
      obtain rfl := Option.some.inj hx'
      rw [List.take_of_length_le (by rw [List.length_drop, h.sz]; omega)] at h1
      obtain ⟨a, hK, ho, hb⟩ := h.get enc w held fuel _ x h1 (fun n hn => hw n (by simpa [DataW.weightsEach] using hn))
      exact ⟨a, hK, ho, by simpa [Rows.uptoBulkAll] using hb⟩

theorem opensF_cons {P : Program} {f : Field} {fs : List Field} {off : Nat} {α β : Type} {d : Kd α} {ok : α → Prop} {bk : α → Nat} {d' : Kd β} {ok' : β → Prop} {bk' : β → Nat}
    (h : Opens P f.type d ok bk) (ho : off = f.offset + d.sz) (h' : OpensF P fs off d' ok' bk') :
    OpensF P (f :: fs) f.offset (Kd.pair d d') (fun a => ok a.1 ∧ ok' a.2) (fun a => bk a.1 + bk' a.2) where
  get := by
    intro H enc w held fuel cs xs hl hx hw
    have hl' : cs.length = f.offset + (d.sz + d'.sz) := hl
    rw [List.mapM_cons] at hx
    cases h1 : DataW.trod enc P w 0 (fun _ => true) held fuel f.type ((cs.drop f.offset).take (P.cellsOf f.type)) with
    | none => rw [h1] at hx; simp at hx
    | some x =>
      rw [h1] at hx
      cases h2 : fs.mapM fun f => DataW.trod enc P w 0 (fun _ => true) held fuel f.type ((cs.drop f.offset).take (P.cellsOf f.type)) with
      | none => rw [h2] at hx; simp at hx
      | some ys =>
        rw [h2] at hx
        have hx' : some (x :: ys) = some xs := hx
        obtain rfl := Option.some.inj hx'
        obtain ⟨a, hK, hok, hb⟩ := h.get enc w held fuel _ x h1 (fun n hn => hw n (by simp only [List.map_cons, DataW.weightsEach, List.mem_append]; exact .inl hn))
        obtain ⟨a', hK', hok', hb'⟩ := h'.get enc w held fuel cs ys (by rw [hl', ho]; omega) h2 (fun n hn => hw n (by simp only [List.map_cons, DataW.weightsEach, List.mem_append]; exact .inr hn))
        refine ⟨(a, a'), ⟨_, _, ?_, hK, hK'⟩, ⟨hok, hok'⟩, ?_⟩
        · rw [h.sz, ho, ← List.drop_drop]
          exact (List.take_append_drop _ _).symm
        · simp only [List.map_cons, Rows.uptoBulkAll]
          omega

theorem opens_struct {P : Program} {t : TypeId} {fs : Array Field} {α β : Type} {d : Kd α} {ok : α → Prop} {bk : α → Nat} (g : β → α) (m : α → β) (hg : ∀ a, g (m a) = a)
    (hu : P.underlying t = some (.struct fs)) (hs : P.cellsOf t = d.sz) (h : OpensF P fs.toList 0 d ok bk) :
    Opens P t (Kd.iso d g) (fun b => ok (g b)) (fun b => bk (g b) + 1) where
  sz := hs
  get := by
    intro H enc w held fuel cs x hx hw
    cases fuel with
    | zero => simp [DataW.trod] at hx
    | succ fuel =>
      unfold DataW.trod at hx
      rw [hu] at hx
      simp only at hx
      split at hx
      · rename_i hl
        obtain ⟨xs, hxs, rfl⟩ := Option.map_eq_some_iff.1 hx
        obtain ⟨a, hK, hok, hb⟩ := h.get enc w held fuel cs xs (by rw [hl, hs, Nat.zero_add]) hxs (fun n hn => hw n (by
          simp only [DataW.weights, hu]
          exact hn))
        refine ⟨m a, ?_, ?_, ?_⟩
        · show d.K w (g (m a)) cs
          rw [hg]
          simpa using hK
        · show ok (g (m a))
          rw [hg]; exact hok
        · show bk (g (m a)) + 1 ≤ _
          rw [hg]
          simp only [Rows.uptoBulk]
          omega
      · simp at hx

theorem bulkAll_sum {H : Type} (l : List (DataW H)) : Rows.uptoBulkAll l = (l.map Rows.uptoBulk).sum := by
  induction l with
  | nil => rfl
  | cons x l ih => simp [Rows.uptoBulkAll, ih]

theorem weightsAll_mem {H : Type} {P : Program} {e : TypeId} {l : List (DataW H)} {d : DataW H} (hd : d ∈ l) {n : Nat} (hn : n ∈ d.weights P e) : n ∈ DataW.weightsAll P e l := by
  induction l with
  | nil => cases hd
  | cons y l ih =>
    simp only [DataW.weightsAll, List.mem_append]
    rcases List.mem_cons.1 hd with rfl | hd
    · exact .inl hn
    · exact .inr (ih hd)

theorem map_sum_le {α : Type} {f g : α → Nat} (l : List α) (h : ∀ a ∈ l, f a ≤ g a) : (l.map f).sum ≤ (l.map g).sum := by
  induction l with
  | nil => exact Nat.le_refl _
  | cons x l ih =>
    have h1 := h x (by simp)
    have h2 := ih (fun a ha => h a (by simp [ha]))
    simp only [List.map_cons, List.sum_cons]
    omega

theorem cells_len {w : World} {base : Nat} {a : Addr} {n : Nat} {cs : List Value} (h : w.cells? base a n = some cs) : cs.length = n ∧ ∀ i u, cs[i]? = some u → w.cell? (a.add i) = some u := by
  obtain ⟨_, h1, h2⟩ := World.cells?_some h
  refine ⟨h1, fun i u hu => ?_⟩
  obtain ⟨hi, rfl⟩ := List.getElem?_eq_some_iff.1 hu
  have := h2 i (by omega)
  rw [this]
  simp [List.getElem?_eq_getElem hi]

theorem opens_slice {P : Program} {t e : TypeId} {α : Type} [Inhabited α] {d : Kd α} {ok : α → Prop} {bk : α → Nat} (B : Nat)
    (hu : P.underlying t = some (.slice e)) (hs : P.cellsOf t = 1) (hB : P.bytesOf e = B) (h : Opens P e d ok bk) :
    Opens P t (Kd.slice e d) (fun l => l.length ≤ maxLen ∧ l.length * B ≤ 140737488351232 ∧ ∀ x ∈ l, ok x) (fun l => (l.map bk).sum + 1) where
  sz := hs
  get := by
    intro H enc w held fuel cs x hx hw
    rcases open_slice hu hx with ⟨rfl, rfl⟩ | ⟨a, len, cap, m, n, D, Pl, rfl, _, hl, hm, hmm, rfl, hel⟩
    · exact ⟨[], ⟨none, 0, rfl, Nat.le_refl _, rfl, by simp, by simp⟩, ⟨by simp, by simp, by simp⟩, by simp [Rows.uptoBulk]⟩
    · have hmc : m = cap := by simpa using hmm
      subst hmc
      have hw1 : (((List.range len).map D).length + ((List.range (m - len)).map fun j => D (len + j)).length) * P.bytesOf e ≤ reachBytes := hw _ (by simp [DataW.weights, hu])
      have hw2 : ∀ i, i < len → ∀ k ∈ (D i).weights P e, k ≤ reachBytes := fun i hi k hk => hw k (by
        simp only [DataW.weights, hu, List.mem_cons, List.mem_append]
        exact .inr (.inl (weightsAll_mem (List.mem_map.2 ⟨i, List.mem_range.2 hi, rfl⟩) hk)))
      have each : ∀ i, i < len → ∃ y : α, (∃ cs', w.cells? 0 (a.add (i * P.cellsOf e)) (P.cellsOf e) = some cs' ∧ d.K w y cs') ∧ ok y ∧ bk y ≤ Rows.uptoBulk (D i) := by
        intro i hi
        obtain ⟨cs', hc, ht⟩ := hel i (by omega)
        obtain ⟨y, hK, ho, hb⟩ := h.get enc w held n cs' _ ht (hw2 i hi)
        exact ⟨y, ⟨cs', hc, hK⟩, ho, hb⟩
      obtain ⟨f, hf⟩ := choose_lt each
      refine ⟨(List.range len).map f, ⟨some a, m, by simp, by simpa using hl, ?_⟩, ⟨?_, ?_, ?_⟩, ?_⟩
      · refine ⟨rfl, ?_, fun hn => ⟨a, rfl, fun j p hj => ?_⟩⟩
        · simp only [List.length_map, List.length_range]
          unfold maxLen at hm
          omega
        · obtain ⟨hjl, hp⟩ := List.getElem?_eq_some_iff.1 hj
          simp at hjl
          have hp' : f j = p := by simpa using hp
          obtain ⟨⟨cs', hc, hK⟩, _⟩ := hf j hjl
          obtain ⟨hcl, hcc⟩ := cells_len hc
          refine ⟨cs', by rw [hcl, h.sz], hp' ▸ hK, fun i u hu' => ?_⟩
          have := hcc i u hu'
          rw [Go.Deep.add_add, h.sz] at this
          exact this
      · simp; omega
      · simp only [List.length_map, List.length_range] at hw1 ⊢
        rw [hB] at hw1
        have : len * B ≤ (len + (m - len)) * B := Nat.mul_le_mul_right _ (by omega)
        unfold reachBytes at hw1
        omega
      · intro x hx
        obtain ⟨i, hi, rfl⟩ := List.mem_map.1 hx
        exact (hf i (List.mem_range.1 hi)).2.1
      · simp only [Rows.uptoBulk, bulkAll_sum, List.map_map]
        have := map_sum_le (f := bk ∘ f) (g := Rows.uptoBulk ∘ D) (List.range len) (fun i hi => (hf i (List.mem_range.1 hi)).2.2)
        omega

/-- An argument of a kind of one cell, or a struct: its value, and what is known of it. -/
theorem Opens.arg {P : Program} {t : TypeId} {α : Type} {d : Kd α} {ok : α → Prop} {bk : α → Nat} (h : Opens P t d ok bk) {H : Type} {enc : TypeId × Value → H} {W : World} {held : Bool} {v : Value} {x : DataW H} {ps : List MemPlace}
    (ht : DataW.Trod enc P W 0 (fun _ => true) held t v x ps) (hw : ∀ n ∈ x.weights P t, n ≤ reachBytes) : ∃ a : α, d.K W a v.cells.toList ∧ ok a ∧ bk a ≤ Rows.uptoBulk x := by
  obtain ⟨fuel, hf⟩ := ht
  exact h.get enc W held fuel _ (x, ps) hf hw
theorem each_of {H : Type} {P : Program} {ts : List TypeId} {ds : List (DataW H)} (h : (DataW.weightsEach P ts ds).all (· ≤ reachBytes) = true) {j : Nat} {t : TypeId} {d : DataW H} (ht : ts[j]? = some t) (hd : ds[j]? = some d) : ∀ n ∈ d.weights P t, n ≤ reachBytes :=
  fun n hn => by simpa using List.all_eq_true.1 h n (DataW.weights_mem_each ht hd n hn)

theorem int_of_K {k k' : IntKind} {w : World} {n x : Int} (h : (Kd.int k).K w x (Value.int k' n).cells.toList) : n = x := by
  have h' : [Value.int k' n] = [Value.int k x] := h
  simpa using (List.cons.inj h').1 |> fun e => (Value.int.inj e).2
theorem string_of_K {w : World} {s x : ByteArray} (h : Kd.string.K w x (Value.string s).cells.toList) : s = x := by
  have h' : [Value.string s] = [Value.string x] := h
  exact Value.string.inj (List.cons.inj h').1
theorem bool_of_K {w : World} {v : Value} {x : Bool} (hv : ∃ b, v = .bool b) (h : Kd.bool.K w x v.cells.toList) : v = .bool x := by
  obtain ⟨b, rfl⟩ := hv
  have h' : [Value.bool b] = [Value.bool x] := h
  exact (List.cons.inj h').1
theorem slice_of_K {α : Type} {e : Nat} {d : Kd α} {w : World} {a : Option Addr} {len cap : Nat} {xs : List α} (h : (Kd.slice e d).K w xs (Value.slice a len cap).cells.toList) : len = xs.length ∧ xs.length ≤ cap ∧ Kd.C d w a xs.length xs := by
  obtain ⟨A, c, he, hl, hr⟩ := h
  have h' : [Value.slice a len cap] = [Value.slice A xs.length c] := he
  obtain ⟨rfl, rfl, rfl⟩ := Value.slice.inj (List.cons.inj h').1
  exact ⟨rfl, hl, hr⟩
theorem agg_of_K {cs : Array Value} {l : List Value} (h : (Value.agg cs).cells.toList = l) : cs = l.toArray := by
  have h' : cs.toList = l := h
  rw [← h']
end Go.Proofs.YtponmfnegdlppaaDoor.OpenWords

end
section
/- The comparisons of strings as the printed functions spell them: each by 'is one less than the other'. -/
set_option linter.unusedVariables false
set_option linter.unusedSimpArgs false
namespace Go.Proofs.YtponmfnegdlppaaDoor.StrWords
theorem bytesLess_tri : ∀ a b : List UInt8, (!(Op.bytesLess a b || a == b)) = Op.bytesLess b a
  | [], [] => by decide
  | [], _ :: _ => by simp [Op.bytesLess]
  | _ :: _, [] => by simp [Op.bytesLess]
  | a :: x, b :: y => by
    have ih := bytesLess_tri x y
    simp only [Op.bytesLess]
    rcases Nat.lt_trichotomy a.toNat b.toNat with h | h | h
    · have h1 : a < b := UInt8.lt_iff_toNat_lt.2 h
      have h2 : ¬ b < a := fun h' => by have := UInt8.lt_iff_toNat_lt.1 h'; omega
      have h3 : ¬ b = a := fun h' => by subst h'; omega
      simp [h1, h2, h3]
    · have h1 : a = b := UInt8.toNat_inj.1 h
      subst h1
      have h2 : ¬ a < a := fun h' => by have := UInt8.lt_iff_toNat_lt.1 h'; omega
      simp only [h2, decide_false, Bool.false_or, beq_self_eq_true, Bool.true_and, List.cons_beq_cons]
      exact ih
    · have h1 : b < a := UInt8.lt_iff_toNat_lt.2 h
      have h2 : ¬ a < b := fun h' => by have := UInt8.lt_iff_toNat_lt.1 h'; omega
      have h3 : ¬ a = b := fun h' => by subst h'; omega
      simp [h1, h2, h3]
theorem bytesLess_le (a b : List UInt8) : (Op.bytesLess a b || a == b) = !(Op.bytesLess b a) := by
  rw [← bytesLess_tri a b]; simp
@[go_sem] theorem gtr_run (t : TypeId) (a b : ByteArray) : binOp .gtr t (.string a) (.string b) = pure (.bool (Op.bytesLess b.toList a.toList)) := by
  rw [← bytesLess_tri]; simp [binOp, Op.stringOp]
@[go_sem] theorem leq_run (t : TypeId) (a b : ByteArray) : binOp .leq t (.string a) (.string b) = pure (.bool !(Op.bytesLess b.toList a.toList)) := by
  rw [← bytesLess_le]; simp [binOp, Op.stringOp]
@[go_sem] theorem geq_run (t : TypeId) (a b : ByteArray) : binOp .geq t (.string a) (.string b) = pure (.bool !(Op.bytesLess a.toList b.toList)) := by
  simp [binOp, Op.stringOp]
open Go.Proofs.YtponmfnegdlppaaDoorW.PrintWords in
theorem rr_len {α : Type} {R : α → List Value → Prop} {size : Nat} {w : World} {A : Option Addr} {n m : Nat} {ps : List α} (h : m = n) (hr : ReadsRow R size w A m ps) : ReadsRow R size w A n ps := h ▸ hr
section
open Go.RowKit Go.Proofs.YtponmfnegdlppaaDoorW.PrintWords
variable {P : Program} {ops : Array Oper} {rest : List Oper} {o : Oper} {a : Act} {Q : Exit → Act → World → Prop} {α : Type}
/-- 'make([]T, 0, n)': an empty row of one's own, with room. -/
theorem R_make0 (d : Kd α) {w0 W : World} (base e : Nat) (hgd : o.guard = none) {N : Tmp} (hd : o.dst = some N) (t : TypeId) (x y : Operand) (ho : o.op = .makeSlice t x y) (n : Int) (hx : a.eval x = .int .i64 0) (hy : a.eval y = .int .i64 n)
    (ht : P.underlying t = some (.slice e)) (z : Value) (bytes : Nat) (hinfo : (P.info? e).map (fun i => (i.zero, i.size, i.bytes)) = some (some z, d.sz, bytes)) (hz : z.cells.size = d.sz) (hs0 : 0 < d.sz) (hb0 : 0 < bytes)
    (z0 : α) {ok okp : Nat → Prop} (_hzero : d.M W base okp z0 z.cells.toList) (_hok : ∀ k, okp k → ok k) (hfresh : ok W.heap.size) (h0 : 0 ≤ n) (hl : n.toNat * bytes ≤ 281474976710656) (HB : Below base w0 W) (hbase : base ≤ W.heap.size)
    (h : ∀ v1 w1, d.R e w1 base ok v1 [] → Below base w0 w1 → W.grownBy w1 none → (∃ b, v1.ownBlock = some b ∧ W.heap.size ≤ b) → wpList P ops Q rest (a.put o.dst v1) w1) : wpList P ops Q (o :: rest) a W := by
  obtain ⟨m, rfl⟩ := Int.eq_ofNat_of_zero_le h0
  simp only [Int.toNat_natCast] at hl
  obtain ⟨i0, hi, hzz⟩ := Option.map_eq_some_iff.1 hinfo
  simp only [Prod.mk.injEq] at hzz
  obtain ⟨hz0, hz1, hz2⟩ := hzz
  have hm : m ≤ 281474976710656 := Nat.le_trans (Nat.le_mul_of_pos_right _ hb0) hl
  refine wpList_make_own W hgd x y t ho base e i0 z d.sz ht hi hz0 hz1 .i64 .i64 (m : Int) m hx hy rfl (by rw [hz2, Nat.mul_comm]; exact hl) (by unfold maxLen; omega) hbase ?_
  intro w' ho' hg
  refine h _ w' ⟨fun k hk => ?_, [], ?_, ?_⟩ (HB.grown hg hbase (fun k hk => by cases hk)) hg ⟨W.heap.size, by simp [Value.ownBlock], Nat.le_refl _⟩
  · have : W.heap.size = k := by simpa [Value.ownBlock] using hk
    subst this
    exact hfresh
  · exact ho'
  · exact Reps.none _ _
end
end Go.Proofs.YtponmfnegdlppaaDoor.StrWords

end
section
-- Written by a program of this session (wip/tools/hprint.py, over the kit's printer), not by hand. Lean checks it.
namespace Go.Proofs.YtponmfnegdlppaaDoor.P
open Go.RowKit Go.Proofs.YtponmfnegdlppaaDoorW.PrintWords Go.Proofs.YtponmfnegdlppaaDoorW.PrintLast Go.Proofs.YtponmfnegdlppaaDoorW.PrintMore
attribute [local go_sem] max2_int min2_int max_two min_two max_three min_three max_four min_four
set_option linter.unusedVariables false
set_option linter.unusedSimpArgs false

def errW : Option Int → Value
  | none => .nilIface
  | some c => .iface 0 (.int .i64 c)
theorem errW_none : errW none = .nilIface := rfl
theorem errW_some (c : Int) : errW (some c) = .iface 0 (.int .i64 c) := rfl
theorem info29 : (Tryd.prog.info? 29).map (fun i => (i.zero, i.size, i.bytes)) = some (some (.agg #[(.int .i64 0), (.int .i64 0)]), 2, 16) := by kernel_rfl
theorem info38 : (Tryd.prog.info? 38).map (fun i => (i.zero, i.size, i.bytes)) = some (some (.agg #[(.int .i64 0), (.int .i64 0), (.int .i64 0)]), 3, 24) := by kernel_rfl
-- the values' own types
/-! #### struct type 38 -/
structure S38 where
  f0 : Int
  f1 : Int
  f2 : Int
def z38 : S38 := ⟨(0 : Int), (0 : Int), (0 : Int)⟩
def k38 : Kd S38 := Kd.iso (Kd.pair (Kd.int .i64) (Kd.pair (Kd.int .i64) (Kd.int .i64))) (fun x : S38 => (x.f0, x.f1, x.f2))
theorem k38_open {w : World} {x : S38} {cs : List Value} (h : k38.K w x cs) : cs = [.int .i64 x.f0, .int .i64 x.f1, .int .i64 x.f2] := by
  obtain ⟨_, _, rfl, rfl, ⟨_, _, rfl, rfl, rfl⟩⟩ := h
  exact rfl
theorem k38_openM {w : World} {base : Nat} {ok : Nat → Prop} {x : S38} {cs : List Value} (h : k38.M w base ok x cs) : cs = [.int .i64 x.f0, .int .i64 x.f1, .int .i64 x.f2] := by
  obtain ⟨_, _, rfl, rfl, ⟨_, _, rfl, rfl, rfl⟩⟩ := h
  exact rfl
theorem k38_mk (w : World) (x : S38)  : k38.K w x [.int .i64 x.f0, .int .i64 x.f1, .int .i64 x.f2] := ⟨[.int .i64 x.f0], [.int .i64 x.f1, .int .i64 x.f2], rfl, rfl, ⟨[.int .i64 x.f1], [.int .i64 x.f2], rfl, rfl, rfl⟩⟩
theorem k38_mkM (w : World) (base : Nat) (ok : Nat → Prop) (x : S38)  : k38.M w base ok x [.int .i64 x.f0, .int .i64 x.f1, .int .i64 x.f2] := ⟨[.int .i64 x.f0], [.int .i64 x.f1, .int .i64 x.f2], rfl, rfl, ⟨[.int .i64 x.f1], [.int .i64 x.f2], rfl, rfl, rfl⟩⟩
def rd_T38 (xs : List S38) (i : Int) : S38 := xs.getD i.toNat z38
theorem at_T38 {w : World} {A : Option Addr} {n : Nat} {xs : List S38} (h : Kd.C k38 w A n xs) (i : Int) (h0 : 0 ≤ i) (h1 : i < n) : ∃ ad , A = some ad ∧ w.cell? (ad.add (i.toNat * 3)) = some (.int .i64 (rd_T38 xs i).f0) ∧ w.cell? ⟨(ad.add (i.toNat * 3)).block, (ad.add (i.toNat * 3)).off + 1, none⟩ = some (.int .i64 (rd_T38 xs i).f1) ∧ w.cell? ⟨(ad.add (i.toNat * 3)).block, (ad.add (i.toNat * 3)).off + 2, none⟩ = some (.int .i64 (rd_T38 xs i).f2) := by
  obtain ⟨ad, c, e, _, hK, hc0⟩ := Kd.C_get h z38 i h0 h1
  have hc : ∀ j u, c[j]? = some u → w.cell? (ad.add (i.toNat * 3 + j)) = some u := hc0
  obtain rfl := k38_open hK
  exact ⟨ad, e, hc 0 _ rfl, by rw [← add_field _ _ 1 (by omega)]; exact hc 1 _ rfl, by rw [← add_field _ _ 2 (by omega)]; exact hc 2 _ rfl⟩

def rd_L2 (xs : List (List S38)) (i : Int) : (List S38) := xs.getD i.toNat ([] : List S38)
theorem at_L2 {w : World} {A : Option Addr} {n : Nat} {xs : List (List S38)} (h : Kd.C (Kd.slice 38 k38) w A n xs) (i : Int) (h0 : 0 ≤ i) (h1 : i < n) : ∃ ad A0 c0, A = some ad ∧ w.cell? (ad.add i.toNat) = some (.slice A0 (rd_L2 xs i).length c0) ∧ (rd_L2 xs i).length ≤ c0 ∧ k38.C w A0 (rd_L2 xs i).length (rd_L2 xs i) := by
  obtain ⟨ad, c, e, _, hK, hc0⟩ := Kd.C_get h ([] : List S38) i h0 h1
  have hc : ∀ j u, c[j]? = some u → w.cell? (ad.add (i.toNat * 1 + j)) = some u := hc0
  obtain ⟨A0, c0, rfl, l0, g0⟩ := hK
  exact ⟨ad, A0, c0, e, by have hq := hc 0 _ rfl; rwa [Nat.mul_one, Nat.add_zero] at hq, l0, g0⟩

/-! #### struct type 24 -/
structure S24 where
  f0 : Int
  f1 : (List S38)
  f2 : (List S38)
  f3 : Bool
def z24 : S24 := ⟨(0 : Int), ([] : List S38), ([] : List S38), false⟩
def k24 : Kd S24 := Kd.iso (Kd.pair (Kd.int .i64) (Kd.pair (Kd.slice 38 k38) (Kd.pair (Kd.slice 38 k38) Kd.bool))) (fun x : S24 => (x.f0, x.f1, x.f2, x.f3))
theorem k24_open {w : World} {x : S24} {cs : List Value} (h : k24.K w x cs) : ∃ A1 c1 A2 c2, cs = [.int .i64 x.f0, .slice A1 x.f1.length c1, .slice A2 x.f2.length c2, .bool x.f3] ∧ x.f1.length ≤ c1 ∧ k38.C w A1 x.f1.length x.f1 ∧ x.f2.length ≤ c2 ∧ k38.C w A2 x.f2.length x.f2 := by
  obtain ⟨_, _, rfl, rfl, ⟨_, _, rfl, ⟨A1, c1, rfl, l1, g1⟩, ⟨_, _, rfl, ⟨A2, c2, rfl, l2, g2⟩, rfl⟩⟩⟩ := h
  exact ⟨A1, c1, A2, c2, rfl, l1, g1, l2, g2⟩
theorem k24_openM {w : World} {base : Nat} {ok : Nat → Prop} {x : S24} {cs : List Value} (h : k24.M w base ok x cs) : ∃ v1 v2, cs = [.int .i64 x.f0, v1, v2, .bool x.f3] ∧ k38.R 38 w base ok v1 x.f1 ∧ k38.R 38 w base ok v2 x.f2 := by
  obtain ⟨_, _, rfl, rfl, ⟨_, _, rfl, ⟨v1, rfl, g1⟩, ⟨_, _, rfl, ⟨v2, rfl, g2⟩, rfl⟩⟩⟩ := h
  exact ⟨v1, v2, rfl, g1, g2⟩
theorem k24_mk (w : World) (x : S24) {A1 : Option Addr} {c1 : Nat} (l1 : x.f1.length ≤ c1) (g1 : k38.C w A1 x.f1.length x.f1) {A2 : Option Addr} {c2 : Nat} (l2 : x.f2.length ≤ c2) (g2 : k38.C w A2 x.f2.length x.f2) : k24.K w x [.int .i64 x.f0, .slice A1 x.f1.length c1, .slice A2 x.f2.length c2, .bool x.f3] := ⟨[.int .i64 x.f0], [.slice A1 x.f1.length c1, .slice A2 x.f2.length c2, .bool x.f3], rfl, rfl, ⟨[.slice A1 x.f1.length c1], [.slice A2 x.f2.length c2, .bool x.f3], rfl, ⟨A1, c1, rfl, l1, g1⟩, ⟨[.slice A2 x.f2.length c2], [.bool x.f3], rfl, ⟨A2, c2, rfl, l2, g2⟩, rfl⟩⟩⟩
theorem k24_mkM (w : World) (base : Nat) (ok : Nat → Prop) (x : S24) {v1 : Value} (g1 : k38.R 38 w base ok v1 x.f1) {v2 : Value} (g2 : k38.R 38 w base ok v2 x.f2) : k24.M w base ok x [.int .i64 x.f0, v1, v2, .bool x.f3] := ⟨[.int .i64 x.f0], [v1, v2, .bool x.f3], rfl, rfl, ⟨[v1], [v2, .bool x.f3], rfl, ⟨v1, rfl, g1⟩, ⟨[v2], [.bool x.f3], rfl, ⟨v2, rfl, g2⟩, rfl⟩⟩⟩
def rd_T24 (xs : List S24) (i : Int) : S24 := xs.getD i.toNat z24
theorem at_T24 {w : World} {A : Option Addr} {n : Nat} {xs : List S24} (h : Kd.C k24 w A n xs) (i : Int) (h0 : 0 ≤ i) (h1 : i < n) : ∃ ad A1 c1 A2 c2, A = some ad ∧ w.cell? (ad.add (i.toNat * 4)) = some (.int .i64 (rd_T24 xs i).f0) ∧ w.cell? ⟨(ad.add (i.toNat * 4)).block, (ad.add (i.toNat * 4)).off + 1, none⟩ = some (.slice A1 (rd_T24 xs i).f1.length c1) ∧ w.cell? ⟨(ad.add (i.toNat * 4)).block, (ad.add (i.toNat * 4)).off + 2, none⟩ = some (.slice A2 (rd_T24 xs i).f2.length c2) ∧ w.cell? ⟨(ad.add (i.toNat * 4)).block, (ad.add (i.toNat * 4)).off + 3, none⟩ = some (.bool (rd_T24 xs i).f3) ∧ (rd_T24 xs i).f1.length ≤ c1 ∧ k38.C w A1 (rd_T24 xs i).f1.length (rd_T24 xs i).f1 ∧ (rd_T24 xs i).f2.length ≤ c2 ∧ k38.C w A2 (rd_T24 xs i).f2.length (rd_T24 xs i).f2 := by
  obtain ⟨ad, c, e, _, hK, hc0⟩ := Kd.C_get h z24 i h0 h1
  have hc : ∀ j u, c[j]? = some u → w.cell? (ad.add (i.toNat * 4 + j)) = some u := hc0
  obtain ⟨A1, c1, A2, c2, rfl, l1, g1, l2, g2⟩ := k24_open hK
  exact ⟨ad, A1, c1, A2, c2, e, hc 0 _ rfl, by rw [← add_field _ _ 1 (by omega)]; exact hc 1 _ rfl, by rw [← add_field _ _ 2 (by omega)]; exact hc 2 _ rfl, by rw [← add_field _ _ 3 (by omega)]; exact hc 3 _ rfl, l1, g1, l2, g2⟩

/-! #### struct type 29 -/
structure S29 where
  f0 : Int
  f1 : Int
def z29 : S29 := ⟨(0 : Int), (0 : Int)⟩
def k29 : Kd S29 := Kd.iso (Kd.pair (Kd.int .i64) (Kd.int .i64)) (fun x : S29 => (x.f0, x.f1))
theorem k29_open {w : World} {x : S29} {cs : List Value} (h : k29.K w x cs) : cs = [.int .i64 x.f0, .int .i64 x.f1] := by
  obtain ⟨_, _, rfl, rfl, rfl⟩ := h
  exact rfl
theorem k29_openM {w : World} {base : Nat} {ok : Nat → Prop} {x : S29} {cs : List Value} (h : k29.M w base ok x cs) : cs = [.int .i64 x.f0, .int .i64 x.f1] := by
  obtain ⟨_, _, rfl, rfl, rfl⟩ := h
  exact rfl
theorem k29_mk (w : World) (x : S29)  : k29.K w x [.int .i64 x.f0, .int .i64 x.f1] := ⟨[.int .i64 x.f0], [.int .i64 x.f1], rfl, rfl, rfl⟩
theorem k29_mkM (w : World) (base : Nat) (ok : Nat → Prop) (x : S29)  : k29.M w base ok x [.int .i64 x.f0, .int .i64 x.f1] := ⟨[.int .i64 x.f0], [.int .i64 x.f1], rfl, rfl, rfl⟩
def rd_T29 (xs : List S29) (i : Int) : S29 := xs.getD i.toNat z29
theorem at_T29 {w : World} {A : Option Addr} {n : Nat} {xs : List S29} (h : Kd.C k29 w A n xs) (i : Int) (h0 : 0 ≤ i) (h1 : i < n) : ∃ ad , A = some ad ∧ w.cell? (ad.add (i.toNat * 2)) = some (.int .i64 (rd_T29 xs i).f0) ∧ w.cell? ⟨(ad.add (i.toNat * 2)).block, (ad.add (i.toNat * 2)).off + 1, none⟩ = some (.int .i64 (rd_T29 xs i).f1) := by
  obtain ⟨ad, c, e, _, hK, hc0⟩ := Kd.C_get h z29 i h0 h1
  have hc : ∀ j u, c[j]? = some u → w.cell? (ad.add (i.toNat * 2 + j)) = some u := hc0
  obtain rfl := k29_open hK
  exact ⟨ad, e, hc 0 _ rfl, by rw [← add_field _ _ 1 (by omega)]; exact hc 1 _ rfl⟩

end Go.Proofs.YtponmfnegdlppaaDoor.P

end
section
-- Written by a program of this session (wip/tools/hprint.py, over the kit's printer), not by hand. Lean checks it.
namespace Go.Proofs.YtponmfnegdlppaaDoor.P
open Go.RowKit Go.Proofs.YtponmfnegdlppaaDoorW.PrintWords Go.Proofs.YtponmfnegdlppaaDoor.OpenWords
set_option linter.unusedVariables false
def ok38 (x : S38) : Prop := ((Lit.int .i64 x.f0).wf = true) ∧ ((Lit.int .i64 x.f1).wf = true) ∧ (Lit.int .i64 x.f2).wf = true
def bk38 (x : S38) : Nat := (1 + (1 + 1)) + 1
instance : Inhabited S38 := ⟨z38⟩
theorem opens38 : Opens Tryd.prog 38 k38 ok38 bk38 :=
  opens_struct (fun x : S38 => (x.f0, x.f1, x.f2)) (fun a => ⟨a.1, a.2.1, a.2.2⟩) (fun _ => rfl) Tryd.underlying38 (by kernel_rfl) (opensF_cons (opens_int Tryd.underlying3 (by kernel_rfl)) rfl (opensF_cons (opens_int Tryd.underlying3 (by kernel_rfl)) rfl (opensF_one (opens_int Tryd.underlying3 (by kernel_rfl)))))
def ok24 (x : S24) : Prop := ((Lit.int .i64 x.f0).wf = true) ∧ (x.f1.length ≤ maxLen ∧ x.f1.length * 24 ≤ 140737488351232 ∧ ∀ y ∈ x.f1, ok38 y) ∧ (x.f2.length ≤ maxLen ∧ x.f2.length * 24 ≤ 140737488351232 ∧ ∀ y ∈ x.f2, ok38 y) ∧ True
def bk24 (x : S24) : Nat := (1 + (((x.f1.map fun x => (bk38 x)).sum + 1) + (((x.f2.map fun x => (bk38 x)).sum + 1) + 1))) + 1
instance : Inhabited S24 := ⟨z24⟩
theorem opens24 : Opens Tryd.prog 24 k24 ok24 bk24 :=
  opens_struct (fun x : S24 => (x.f0, x.f1, x.f2, x.f3)) (fun a => ⟨a.1, a.2.1, a.2.2.1, a.2.2.2⟩) (fun _ => rfl) Tryd.underlying24 (by kernel_rfl) (opensF_cons (opens_int Tryd.underlying3 (by kernel_rfl)) rfl (opensF_cons (opens_slice 24 Tryd.underlying22 (by kernel_rfl) (by kernel_rfl) opens38) rfl (opensF_cons (opens_slice 24 Tryd.underlying22 (by kernel_rfl) (by kernel_rfl) opens38) rfl (opensF_one (opens_bool Tryd.underlying4 (by kernel_rfl))))))
def ok29 (x : S29) : Prop := ((Lit.int .i64 x.f0).wf = true) ∧ (Lit.int .i64 x.f1).wf = true
def bk29 (x : S29) : Nat := (1 + 1) + 1
instance : Inhabited S29 := ⟨z29⟩
theorem opens29 : Opens Tryd.prog 29 k29 ok29 bk29 :=
  opens_struct (fun x : S29 => (x.f0, x.f1)) (fun a => ⟨a.1, a.2⟩) (fun _ => rfl) Tryd.underlying29 (by kernel_rfl) (opensF_cons (opens_int Tryd.underlying3 (by kernel_rfl)) rfl (opensF_one (opens_int Tryd.underlying3 (by kernel_rfl))))
end Go.Proofs.YtponmfnegdlppaaDoor.P

end
section
/- The laid variable of the seat: its four cells. -/
namespace Go.Proofs.YtponmfnegdlppaaDoor.P
open Go.RowKit Go.Proofs.YtponmfnegdlppaaDoorW.PrintWords Go.Proofs.YtponmfnegdlppaaDoorW.PrintLast Go.Proofs.YtponmfnegdlppaaDoorW.PrintMore
theorem gSpent : Tryd.prog.globalNamed "winnow/ledger.spent" = some 0 := by kernel_rfl
theorem gSpentType : (Tryd.prog.globals[0]?).map (·.type) = some 70 := by kernel_rfl
theorem cells70 : Tryd.prog.cellsOf 70 = 4 := by kernel_rfl
theorem cells3 : Tryd.prog.cellsOf 3 = 1 := by kernel_rfl
/-- spent's cells -/
structure Tab (w : World) : Prop where
  c0 : w.cell? ⟨0, 0, none⟩ = some (.int .i64 0)
  c1 : w.cell? ⟨0, 1, none⟩ = some (.int .i64 1)
  c2 : w.cell? ⟨0, 2, none⟩ = some (.int .i64 1)
  c3 : w.cell? ⟨0, 3, none⟩ = some (.int .i64 1)
theorem table {W : World} (h : laidMetH Tryd.prog [("winnow/ledger.spent", Rows.laid_winnow_ledger_spent)] W) : Lib.TabIs Tryd.prog W "winnow/ledger.spent" .i64 [0, 1, 1, 1] :=
  Lib.tabIs_of_head (rest := []) gSpent gSpentType Tryd.underlying70 Tryd.underlying3 cells3 cells70 h
theorem tab_of_laid {W : World} (h : laidMetH Tryd.prog [("winnow/ledger.spent", Rows.laid_winnow_ledger_spent)] W) : Tab W :=
  ⟨(table h).cell gSpent 0 (by decide), (table h).cell gSpent 1 (by decide), (table h).cell gSpent 2 (by decide), (table h).cell gSpent 3 (by decide)⟩
theorem Tab.pos {w : World} (h : Tab w) : 0 < w.heap.size := World.block_lt_of_cell? w ⟨0, 0, none⟩ h.c0
theorem Tab.step {w w' : World} {b : Nat} (h : Tab w) (hb : Below b w w') (h0 : 0 < b) : Tab w' :=
  ⟨(hb.cell h0).trans h.c0, (hb.cell h0).trans h.c1, (hb.cell h0).trans h.c2, (hb.cell h0).trans h.c3⟩
theorem Tab.below {w w' : World} (h : Tab w) (hb : Below w.heap.size w w') : Tab w' := h.step hb h.pos
theorem Tab.drew {w : World} (h : Tab w) : Tab w.drew := ⟨h.c0, h.c1, h.c2, h.c3⟩
theorem Tab.drewN {w : World} {n : Nat} (h : Tab w) : Tab (w.drewN n) := h.below (pw_below_drewN (Below.refl _ _) _)
end Go.Proofs.YtponmfnegdlppaaDoor.P

end
section
/- The ledger's answers in plain lists. -/
namespace Go.Proofs.YtponmfnegdlppaaDoor.P
open Go.RowKit Go.Proofs.YtponmfnegdlppaaDoorW.PrintWords Go.Proofs.YtponmfnegdlppaaDoorW.PrintLast Go.Proofs.YtponmfnegdlppaaDoorW.PrintMore
set_option linter.unusedVariables false

/-- may a task's state be? -/
def goodP (t : Int) (held : Bool) (s : S38) : Bool :=
  !(decide (s.f0 < 0)) && (!(decide (4 ≤ s.f0)) && ((held || !(decide (s.f0 = 2))) && (!(decide (s.f2 < 0)) && (!(decide (t < s.f2)) && (decide (s.f1 = s.f2 + (if s.f0 = 0 then 0 else 1)) && (!(decide (s.f2 = t)) || decide (s.f0 = 0)))))))
def scanP (t : Int) (held : Bool) : List S38 → Int → Option Int
  | [], f => some f
  | s :: l, f => if goodP t held s = true then scanP t held l (if s.f2 = t then f + 1 else f) else none
def finP (fl : Bool) (f : Int) : Int := if 1 < f ∨ fl ≠ decide (f = 1) then 190 else 0
def scan1 (t : Int) (l1 : List S38) (fl : Bool) (f : Int) : Int := match scanP t true l1 f with
  | none => 190
  | some f => finP fl f
def scan0 (t : Int) (l0 l1 : List S38) (fl : Bool) (f : Int) : Int := match scanP t false l0 f with
  | none => 190
  | some f => scan1 t l1 fl f
def checkP (t : Int) (l0 l1 : List S38) (fl : Bool) : Int :=
  if t < 1 then 190 else if 16 < t then 190 else if 256 < l0.length then 190 else if l1.length < 1 then 190 else if 65535 < l1.length then 190 else scan0 t l0 l1 fl 0
theorem rd38 (l : List S38) (i : Nat) (h : i < l.length) : rd_T38 l (i : Int) = l[i] := by
  unfold rd_T38
  rw [Int.toNat_natCast, List.getD_eq_getElem?_getD, List.getElem?_eq_getElem h]
  rfl
theorem drop38 (l : List S38) (i : Nat) (h : i < l.length) : l.drop i = rd_T38 l (i : Int) :: l.drop (i + 1) := by
  rw [rd38 l i h]
  exact List.drop_eq_getElem_cons h
end Go.Proofs.YtponmfnegdlppaaDoor.P

end
section
/- ledger.Check, by hand (printed by HCheck.gen.py). -/
namespace Go.Proofs.YtponmfnegdlppaaDoor.P
open Go.RowKit Go.Proofs.YtponmfnegdlppaaDoorW.PrintWords Go.Proofs.YtponmfnegdlppaaDoorW.PrintLast Go.Proofs.YtponmfnegdlppaaDoorW.PrintMore
set_option linter.unusedVariables false
set_option linter.unusedSimpArgs false

/-- a book's box -/
def bookAt (w : World) (g : Nat) (t : Int) (u0 u1 : Value) (fl : Bool) : Prop := w.heap[g]? = some (.cells #[.int .i64 t, u0, u1, .bool fl] 24 (0, 0))
section
variable {w : World} {g : Nat} {t : Int} {u0 u1 : Value} {fl : Bool}
theorem bookAt.c0 (h : bookAt w g t u0 u1 fl) : w.cell? ⟨g, 0, none⟩ = some (.int .i64 t) := by rw [cell_of_row _ _ _ _ _ _ h]; rfl
theorem bookAt.c1 (h : bookAt w g t u0 u1 fl) : w.cell? ⟨g, 1, none⟩ = some u0 := by rw [cell_of_row _ _ _ _ _ _ h]; rfl
theorem bookAt.c2 (h : bookAt w g t u0 u1 fl) : w.cell? ⟨g, 2, none⟩ = some u1 := by rw [cell_of_row _ _ _ _ _ _ h]; rfl
theorem bookAt.c3 (h : bookAt w g t u0 u1 fl) : w.cell? ⟨g, 3, none⟩ = some (.bool fl) := by rw [cell_of_row _ _ _ _ _ _ h]; rfl
theorem bookAt.lt (h : bookAt w g t u0 u1 fl) : g < w.heap.size := (Array.getElem?_eq_some_iff.1 h).1
theorem bookAt.below {w' : World} {b : Nat} (h : bookAt w g t u0 u1 fl) (hb : Below b w w') (hg : g < b) : bookAt w' g t u0 u1 fl := (hb.block _ hg).trans h
end
theorem ix0 (A : Option Addr) (n c : Nat) (B : Option Addr) (m d : Nat) (w : World) : Sem.run Tryd.prog (Instr.index 69 (Value.agg #[.slice A n c, .slice B m d]) (Value.int .i64 0)) w = .ok (.slice A n c) w := by kernel_rfl
theorem ix1 (A : Option Addr) (n c : Nat) (B : Option Addr) (m d : Nat) (w : World) : Sem.run Tryd.prog (Instr.index 69 (Value.agg #[.slice A n c, .slice B m d]) (Value.int .i64 1)) w = .ok (.slice B m d) w := by kernel_rfl
/-- a new task's cells behind the world -/
def world38 (w : World) (s : S38) : World := (((w.alloc (.cells #[.int .i64 0, .int .i64 0, .int .i64 0] 38)).setCell ⟨w.heap.size, 0, none⟩ (.int .i64 s.f0)).setCell ⟨w.heap.size, 1, none⟩ (.int .i64 s.f1)).setCell ⟨w.heap.size, 2, none⟩ (.int .i64 s.f2)

set_option maxHeartbeats 4000000 in
set_option maxRecDepth 100000 in
theorem check_any (t : Int) (fl : Bool) (A0 : Option Addr) (c0 : Nat) (l0 : List S38) (A1 : Option Addr) (c1 : Nat) (l1 : List S38) (w : World) (h0 : Kd.C k38 w A0 l0.length l0) (h1 : Kd.C k38 w A1 l1.length l1) (hT : Tab w) :
    Calls Tryd.prog 15 #[.agg #[.int .i64 t, .slice A0 l0.length c0, .slice A1 l1.length c1, .bool fl]] w fun e w' => e = .returned (.int .i64 (checkP t l0 l1 fl)) ∧ Below w.heap.size w w' := by
  have HT := Aside0.mk hT
  have H0 := Aside0.mk h0
  have H1 := Aside0.mk h1
  obtain ⟨r, hr⟩ : ∃ r, checkP t l0 l1 fl = r := ⟨_, rfl⟩
  rw [hr]
  clear hT h0 h1
  unfold checkP at hr
  have hbk : bookAt (w.alloc (.cells #[.int .i64 t, .slice A0 l0.length c0, .slice A1 l1.length c1, .bool fl] 24)) w.heap.size t (.slice A0 l0.length c0) (.slice A1 l1.length c1) fl := heap_alloc_new w _
  have hba : Below w.heap.size w (w.alloc (.cells #[.int .i64 t, .slice A0 l0.length c0, .slice A1 l1.length c1, .bool fl] 24)) := below_alloc (Below.refl _ _) _
  generalize hn0 : l0.length = n0 at *
  generalize hn1 : l1.length = n1 at *
  have HN0 := Aside0.mk hn0
  have HN1 := Aside0.mk hn1
  have HBK := Aside0.mk hbk
  have HBA := Aside0.mk hba
  have HR := Aside0.mk hr
  clear hn0 hn1 hbk hba hr
  have hu22 := Tryd.underlying22
  have hu38 := Tryd.underlying38
  have hu24 := Tryd.underlying24
  have hu69 := Tryd.underlying69
  have hu70 := Tryd.underlying70
  by_cases k1 : t < 1
  · have hr := HR.out
    rw [if_pos k1] at hr
    subst hr
    have dk1 : decide (t < 1) = true := decide_eq_true k1
    have hx0 := HBK.out.c0
    have hx1 := HBK.out.c1
    have hx2 := HBK.out.c2
    go_enter Tryd.func15, Tryd.ntmps15
    go_wp2_with fail
    go_ret
    exact ⟨rfl, HBA.out⟩
  have dk1 : decide (t < 1) = false := decide_eq_false k1
  by_cases k2 : 16 < t
  · have hr := HR.out
    rw [if_neg k1] at hr; rw [if_pos k2] at hr
    subst hr
    have dk2 : decide (16 < t) = true := decide_eq_true k2
    have hx0 := HBK.out.c0
    have hx1 := HBK.out.c1
    have hx2 := HBK.out.c2
    go_enter Tryd.func15, Tryd.ntmps15
    go_wp2_with fail
    go_ret
    exact ⟨rfl, HBA.out⟩
  have dk2 : decide (16 < t) = false := decide_eq_false k2
  by_cases k3 : 256 < n0
  · have hr := HR.out
    rw [if_neg k1] at hr; rw [if_neg k2] at hr; rw [if_pos k3] at hr
    subst hr
    have dk3 : decide (256 < n0) = true := decide_eq_true k3
    have ek3 : decide ((256 : Int) < (n0 : Int)) = true := decide_eq_true (by omega)
    have hx0 := HBK.out.c0
    have hx1 := HBK.out.c1
    have hx2 := HBK.out.c2
    go_enter Tryd.func15, Tryd.ntmps15
    go_wp2_with fail
    go_ret
    exact ⟨rfl, HBA.out⟩
  have dk3 : decide (256 < n0) = false := decide_eq_false k3
  have ek3 : decide ((256 : Int) < (n0 : Int)) = false := decide_eq_false (by omega)
  by_cases k4 : n1 < 1
  · have hr := HR.out
    rw [if_neg k1] at hr; rw [if_neg k2] at hr; rw [if_neg k3] at hr; rw [if_pos k4] at hr
    subst hr
    have dk4 : decide (n1 < 1) = true := decide_eq_true k4
    have ek4 : decide ((n1 : Int) < 1) = true := decide_eq_true (by omega)
    have hx0 := HBK.out.c0
    have hx1 := HBK.out.c1
    have hx2 := HBK.out.c2
    go_enter Tryd.func15, Tryd.ntmps15
    go_wp2_with fail
    go_ret
    exact ⟨rfl, HBA.out⟩
  have dk4 : decide (n1 < 1) = false := decide_eq_false k4
  have ek4 : decide ((n1 : Int) < 1) = false := decide_eq_false (by omega)
  by_cases k5 : 65535 < n1
  · have hr := HR.out
    rw [if_neg k1] at hr; rw [if_neg k2] at hr; rw [if_neg k3] at hr; rw [if_neg k4] at hr; rw [if_pos k5] at hr
    subst hr
    have dk5 : decide (65535 < n1) = true := decide_eq_true k5
    have ek5 : decide ((65535 : Int) < (n1 : Int)) = true := decide_eq_true (by omega)
    have hx0 := HBK.out.c0
    have hx1 := HBK.out.c1
    have hx2 := HBK.out.c2
    go_enter Tryd.func15, Tryd.ntmps15
    go_wp2_with fail
    go_ret
    exact ⟨rfl, HBA.out⟩
  have dk5 : decide (65535 < n1) = false := decide_eq_false k5
  have ek5 : decide ((65535 : Int) < (n1 : Int)) = false := decide_eq_false (by omega)
  have hr := HR.out
  rw [if_neg k1, if_neg k2, if_neg k3, if_neg k4, if_neg k5] at hr
  clear HR
  have HR := Aside0.mk hr
  clear hr
  have ht1' : 1 ≤ t := by omega
  have ht2' : t ≤ 16 := by omega
  have hb0 : (n0 : Int) ≤ 256 := by omega
  have hb1 : (n1 : Int) ≤ 65535 := by omega
  have hx0 := HBK.out.c0
  have hx1 := HBK.out.c1
  have hx2 := HBK.out.c2
  go_enter Tryd.func15, Tryd.ntmps15
  go_wp2_with fail
  generalize w.alloc (.cells #[.int .i64 t, .slice A0 n0 c0, .slice A1 n1 c1, .bool fl] 24) = W1 at HBK HBA hx0 hx1 hx2 ⊢
  clear hx0 hx1 hx2 dk1 dk2 dk3 dk4 dk5 ek3 ek4 ek5 k1 k2 k3 k4 k5
  go_loopw [3, 39] (fun vf vo wr => ∃ f : Int, vf = .int .i64 f ∧ 0 ≤ f ∧ f ≤ 65535 * 2 ∧ ((vo = .int .i64 0 ∧ f = 0 ∧ Aside0 (scan0 t l0 l1 fl f = r)) ∨ (vo = .int .i64 1 ∧ f ≤ 256 ∧ Aside0 (scan1 t l1 fl f = r)) ∨ (vo = .int .i64 2 ∧ Aside0 (finP fl f = r))) ∧ Aside0 (bookAt wr w.heap.size t (.slice A0 n0 c0) (.slice A1 n1 c1) fl) ∧ Aside0 (Below w.heap.size w wr)) (fun _ vo _ => 2 - (intOf vo).toNat)
  case atStart => exact ⟨0, rfl, by omega, by omega, .inl ⟨rfl, rfl, HR⟩, HBK, HBA⟩
  case round =>
    clear HR HBK HBA
    obtain ⟨f, rfl, hf0, hf1, ho, HBK, HBA⟩ := hrel
    rcases ho with ⟨rfl, rfl, HR⟩ | ⟨rfl, hf2, HR⟩ | ⟨rfl, HR⟩
    · have hix := ix0 A0 n0 c0 A1 n1 c1
      go_wp2_with fail
      clear hix
      go_loopw [3, 45] (fun vf vi wr => ∃ (i : Nat) (f : Int), i ≤ n0 ∧ vf = .int .i64 f ∧ vi = .int .i64 i ∧ 0 ≤ f ∧ f ≤ 0 + i ∧ Aside0 ((match scanP t false (l0.drop i) f with | none => 190 | some f2 => scan1 t l1 fl f2) = r) ∧ Aside0 (bookAt wr w.heap.size t (.slice A0 n0 c0) (.slice A1 n1 c1) fl) ∧ Aside0 (Below w.heap.size w wr)) (fun _ vi _ => n0 - (intOf vi).toNat)
      case atStart => exact ⟨0, _, by omega, rfl, rfl, by omega, by omega, by rw [List.drop_zero]; exact HR, HBK, HBA⟩
      case round =>
        clear HR HBK HBA
        obtain ⟨i, f, hi, rfl, rfl, hf0, hf1, HR, HBK, HBA⟩ := hrel
        by_cases hlt : i < n0
        · have hd1 : decide ((i : Int) < (n0 : Int)) = true := by simp; omega
          have hd2 : decide (i < n0) = true := by simp; omega
          have hr := HR.out
          have hil : i < l0.length := by have := HN0.out; omega
          rw [drop38 l0 i hil] at hr
          obtain ⟨ad, e, hx0, hx1, hx2⟩ := at_T38 H0.out (i : Int) (by omega) (by have := HN0.out; omega)
          subst e
          generalize rd_T38 l0 (i : Int) = s at *
          rw [Int.toNat_natCast] at hx0 hx1 hx2
          replace hx0 := (HBA.out.cell (World.block_lt_of_cell? w _ hx0)).trans hx0
          replace hx1 := (HBA.out.cell (World.block_lt_of_cell? w _ hx1)).trans hx1
          replace hx2 := (HBA.out.cell (World.block_lt_of_cell? w _ hx2)).trans hx2
          have HS := Aside0.mk hr
          clear hr
          go_wp2_with fail
          clear hx0 hx1 hx2
          obtain ⟨sa, sb, sc⟩ := s
          dsimp only at *
          have hbk := HBK.out
          have hba := HBA.out
          have hya := below_alloc (Below.refl wr.heap.size wr) (.cells #[.int .i64 sa, .int .i64 sb, .int .i64 sc] 38)
          have hyr := heap_alloc_new wr (.cells #[.int .i64 sa, .int .i64 sb, .int .i64 sc] 38)
          have HB2 := Aside0.mk (hbk.below hya hbk.lt)
          have HA2 := Aside0.mk (below_step hba hya)
          generalize wr.alloc (.cells #[.int .i64 sa, .int .i64 sb, .int .i64 sc] 38) = W2 at hya hyr HB2 HA2 ⊢
          have hy0 : W2.cell? ⟨wr.heap.size, 0, none⟩ = some (.int .i64 sa) := by rw [cell_of_row _ _ _ _ _ _ hyr]; rfl
          have hy1 : W2.cell? ⟨wr.heap.size, 1, none⟩ = some (.int .i64 sb) := by rw [cell_of_row _ _ _ _ _ _ hyr]; rfl
          have hy2 : W2.cell? ⟨wr.heap.size, 2, none⟩ = some (.int .i64 sc) := by rw [cell_of_row _ _ _ _ _ _ hyr]; rfl
          have hz0 := HB2.out.c0
          have HT2 := HT.out.below HA2.out
          have ht0 := HT2.c0
          have ht1 := HT2.c1
          have ht2 := HT2.c2
          have ht3 := HT2.c3
          clear hya hyr hbk hba HT2 HBK HBA
          by_cases b1 : sa < 0
          · have d1 : decide (sa < 0) = true := decide_eq_true (by omega)
            have hr := HS.out
            have hg : goodP t false ⟨sa, sb, sc⟩ = false := by simp [goodP]; omega
            rw [scanP, if_neg (by rw [hg]; decide)] at hr
            subst hr
            clear HS hg
            go_quiet (fail)
            go_wp2_with fail
            go_ret
            exact ⟨rfl, by repeat (first | exact HA2.out | apply pw_below_drewN | apply below_drew1)⟩
          have d1 : decide (sa < 0) = false := decide_eq_false (by omega)
          by_cases b2 : 4 ≤ sa
          · have d2 : decide (4 ≤ sa) = true := decide_eq_true (by omega)
            have hr := HS.out
            have hg : goodP t false ⟨sa, sb, sc⟩ = false := by simp [goodP]; omega
            rw [scanP, if_neg (by rw [hg]; decide)] at hr
            subst hr
            clear HS hg
            go_quiet (fail)
            go_wp2_with fail
            go_ret
            exact ⟨rfl, by repeat (first | exact HA2.out | apply pw_below_drewN | apply below_drew1)⟩
          have d2 : decide (4 ≤ sa) = false := decide_eq_false (by omega)
          by_cases b3 : sa = 2
          · have d3 : (sa == 2) = true := by simp; omega
            have hr := HS.out
            have hg : goodP t false ⟨sa, sb, sc⟩ = false := by simp [goodP]; omega
            rw [scanP, if_neg (by rw [hg]; decide)] at hr
            subst hr
            clear HS hg
            go_quiet (fail)
            go_wp2_with fail
            go_ret
            exact ⟨rfl, by repeat (first | exact HA2.out | apply pw_below_drewN | apply below_drew1)⟩
          have d3 : (sa == 2) = false := by simp; omega
          by_cases b4 : sc < 0
          · have d4 : decide (sc < 0) = true := decide_eq_true (by omega)
            have hr := HS.out
            have hg : goodP t false ⟨sa, sb, sc⟩ = false := by simp [goodP]; omega
            rw [scanP, if_neg (by rw [hg]; decide)] at hr
            subst hr
            clear HS hg
            go_quiet (fail)
            go_wp2_with fail
            go_ret
            exact ⟨rfl, by repeat (first | exact HA2.out | apply pw_below_drewN | apply below_drew1)⟩
          have d4 : decide (sc < 0) = false := decide_eq_false (by omega)
          by_cases b5 : t < sc
          · have d5 : decide (t < sc) = true := decide_eq_true (by omega)
            have hr := HS.out
            have hg : goodP t false ⟨sa, sb, sc⟩ = false := by simp [goodP]; omega
            rw [scanP, if_neg (by rw [hg]; decide)] at hr
            subst hr
            clear HS hg
            go_quiet (fail)
            go_wp2_with fail
            go_ret
            exact ⟨rfl, by repeat (first | exact HA2.out | apply pw_below_drewN | apply below_drew1)⟩
          have d5 : decide (t < sc) = false := decide_eq_false (by omega)
          have hv : sa = 0 ∨ sa = 1 ∨ sa = 3 := by omega
          rcases hv with rfl | rfl | rfl
          · have hw : wrap64 (sc + 0) = sc + 0 := by unfold wrap64; omega
            have hw2 : IntKind.i64.wrap (sc + 0) = sc + 0 := by rw [i64_w]; exact hw
            by_cases b6 : sb = sc + 0
            · subst b6
              go_quiet (fail)
              by_cases b7 : sc = t
              · have d7 : (sc == t) = true := by simp; omega
                have hr := HS.out
                have hg : goodP t false ⟨0, sc + 0, sc⟩ = true := by simp [goodP]; omega
                rw [scanP, if_pos hg, if_pos b7] at hr
                have HR2 := Aside0.mk hr
                clear hr hg HS
                have hw3 : IntKind.i64.wrap (f + 1) = f + 1 := by rw [i64_w]; unfold wrap64; omega
                go_wp2_with fail
                go_roundw
                case rel => exact ⟨i + 1, f + 1, by omega, by first | rfl | go_num, by go_num, by omega, by omega, HR2, ⟨HB2.out.below (pw_below_drewN (Below.refl _ _) _) HB2.out.lt⟩, ⟨by repeat (first | exact HA2.out | apply pw_below_drewN | apply below_drew1)⟩⟩
                case measure => simp [intOf]; omega
              · have d7 : (sc == t) = false := by simp; omega
                have hr := HS.out
                have hg : goodP t false ⟨0, sc + 0, sc⟩ = true := by simp [goodP]; omega
                rw [scanP, if_pos hg, if_neg b7] at hr
                have HR2 := Aside0.mk hr
                clear hr hg HS
                go_wp2_with fail
                go_roundw
                case rel => exact ⟨i + 1, f, by omega, by first | rfl | go_num, by go_num, by omega, by omega, HR2, ⟨HB2.out.below (pw_below_drewN (Below.refl _ _) _) HB2.out.lt⟩, ⟨by repeat (first | exact HA2.out | apply pw_below_drewN | apply below_drew1)⟩⟩
                case measure => simp [intOf]; omega
            · have d6 : (sb != sc + 0) = true := by simp; omega
              have d6b : (sb == sc + 0) = false := by simp; omega
              have hr := HS.out
              have hg : goodP t false ⟨0, sb, sc⟩ = false := by simp [goodP]; omega
              rw [scanP, if_neg (by rw [hg]; decide)] at hr
              subst hr
              clear HS hg
              go_quiet (fail)
              go_wp2_with fail
              go_ret
              exact ⟨rfl, by repeat (first | exact HA2.out | apply pw_below_drewN | apply below_drew1)⟩
          · have hw : wrap64 (sc + 1) = sc + 1 := by unfold wrap64; omega
            have hw2 : IntKind.i64.wrap (sc + 1) = sc + 1 := by rw [i64_w]; exact hw
            by_cases b6 : sb = sc + 1
            · subst b6
              go_quiet (fail)
              by_cases b7 : sc = t
              · have d7 : (sc == t) = true := by simp; omega
                have hr := HS.out
                have hg : goodP t false ⟨1, sc + 1, sc⟩ = false := by simp [goodP]; omega
                rw [scanP, if_neg (by rw [hg]; decide)] at hr
                subst hr
                clear HS hg
                have hw3 : IntKind.i64.wrap (f + 1) = f + 1 := by rw [i64_w]; unfold wrap64; omega
                go_wp2_with fail
                go_ret
                exact ⟨rfl, by repeat (first | exact HA2.out | apply pw_below_drewN | apply below_drew1)⟩
              · have d7 : (sc == t) = false := by simp; omega
                have hr := HS.out
                have hg : goodP t false ⟨1, sc + 1, sc⟩ = true := by simp [goodP]; omega
                rw [scanP, if_pos hg, if_neg b7] at hr
                have HR2 := Aside0.mk hr
                clear hr hg HS
                go_wp2_with fail
                go_roundw
                case rel => exact ⟨i + 1, f, by omega, by first | rfl | go_num, by go_num, by omega, by omega, HR2, ⟨HB2.out.below (pw_below_drewN (Below.refl _ _) _) HB2.out.lt⟩, ⟨by repeat (first | exact HA2.out | apply pw_below_drewN | apply below_drew1)⟩⟩
                case measure => simp [intOf]; omega
            · have d6 : (sb != sc + 1) = true := by simp; omega
              have d6b : (sb == sc + 1) = false := by simp; omega
              have hr := HS.out
              have hg : goodP t false ⟨1, sb, sc⟩ = false := by simp [goodP]; omega
              rw [scanP, if_neg (by rw [hg]; decide)] at hr
              subst hr
              clear HS hg
              go_quiet (fail)
              go_wp2_with fail
              go_ret
              exact ⟨rfl, by repeat (first | exact HA2.out | apply pw_below_drewN | apply below_drew1)⟩
          · have hw : wrap64 (sc + 1) = sc + 1 := by unfold wrap64; omega
            have hw2 : IntKind.i64.wrap (sc + 1) = sc + 1 := by rw [i64_w]; exact hw
            by_cases b6 : sb = sc + 1
            · subst b6
              go_quiet (fail)
              by_cases b7 : sc = t
              · have d7 : (sc == t) = true := by simp; omega
                have hr := HS.out
                have hg : goodP t false ⟨3, sc + 1, sc⟩ = false := by simp [goodP]; omega
                rw [scanP, if_neg (by rw [hg]; decide)] at hr
                subst hr
                clear HS hg
                have hw3 : IntKind.i64.wrap (f + 1) = f + 1 := by rw [i64_w]; unfold wrap64; omega
                go_wp2_with fail
                go_ret
                exact ⟨rfl, by repeat (first | exact HA2.out | apply pw_below_drewN | apply below_drew1)⟩
              · have d7 : (sc == t) = false := by simp; omega
                have hr := HS.out
                have hg : goodP t false ⟨3, sc + 1, sc⟩ = true := by simp [goodP]; omega
                rw [scanP, if_pos hg, if_neg b7] at hr
                have HR2 := Aside0.mk hr
                clear hr hg HS
                go_wp2_with fail
                go_roundw
                case rel => exact ⟨i + 1, f, by omega, by first | rfl | go_num, by go_num, by omega, by omega, HR2, ⟨HB2.out.below (pw_below_drewN (Below.refl _ _) _) HB2.out.lt⟩, ⟨by repeat (first | exact HA2.out | apply pw_below_drewN | apply below_drew1)⟩⟩
                case measure => simp [intOf]; omega
            · have d6 : (sb != sc + 1) = true := by simp; omega
              have d6b : (sb == sc + 1) = false := by simp; omega
              have hr := HS.out
              have hg : goodP t false ⟨3, sb, sc⟩ = false := by simp [goodP]; omega
              rw [scanP, if_neg (by rw [hg]; decide)] at hr
              subst hr
              clear HS hg
              go_quiet (fail)
              go_wp2_with fail
              go_ret
              exact ⟨rfl, by repeat (first | exact HA2.out | apply pw_below_drewN | apply below_drew1)⟩
        · obtain rfl : i = n0 := by omega
          have hd1 : decide ((i : Int) < (i : Int)) = false := by simp
          have hr := HR.out
          rw [List.drop_eq_nil_of_le (by have := HN0.out; omega)] at hr
          have HR2 := Aside0.mk (show scan1 t l1 fl f = r from hr)
          clear hr HR
          go_wp2_with fail
          go_roundw
          case rel => exact ⟨f, rfl, by omega, by omega, .inr (.inl ⟨rfl, by omega, HR2⟩), HBK, HBA⟩
          case measure => simp [intOf]
    · have hix := ix1 A0 n0 c0 A1 n1 c1
      go_wp2_with fail
      clear hix
      go_loopw [3, 45] (fun vf vi wr => ∃ (i : Nat) (f : Int), i ≤ n1 ∧ vf = .int .i64 f ∧ vi = .int .i64 i ∧ 0 ≤ f ∧ f ≤ 256 + i ∧ Aside0 ((match scanP t true (l1.drop i) f with | none => 190 | some f2 => finP fl f2) = r) ∧ Aside0 (bookAt wr w.heap.size t (.slice A0 n0 c0) (.slice A1 n1 c1) fl) ∧ Aside0 (Below w.heap.size w wr)) (fun _ vi _ => n1 - (intOf vi).toNat)
      case atStart => exact ⟨0, _, by omega, rfl, rfl, by omega, by omega, by rw [List.drop_zero]; exact HR, HBK, HBA⟩
      case round =>
        clear HR HBK HBA
        obtain ⟨i, f, hi, rfl, rfl, hf0, hf1, HR, HBK, HBA⟩ := hrel
        by_cases hlt : i < n1
        · have hd1 : decide ((i : Int) < (n1 : Int)) = true := by simp; omega
          have hd2 : decide (i < n1) = true := by simp; omega
          have hr := HR.out
          have hil : i < l1.length := by have := HN1.out; omega
          rw [drop38 l1 i hil] at hr
          obtain ⟨ad, e, hx0, hx1, hx2⟩ := at_T38 H1.out (i : Int) (by omega) (by have := HN1.out; omega)
          subst e
          generalize rd_T38 l1 (i : Int) = s at *
          rw [Int.toNat_natCast] at hx0 hx1 hx2
          replace hx0 := (HBA.out.cell (World.block_lt_of_cell? w _ hx0)).trans hx0
          replace hx1 := (HBA.out.cell (World.block_lt_of_cell? w _ hx1)).trans hx1
          replace hx2 := (HBA.out.cell (World.block_lt_of_cell? w _ hx2)).trans hx2
          have HS := Aside0.mk hr
          clear hr
          go_wp2_with fail
          clear hx0 hx1 hx2
          obtain ⟨sa, sb, sc⟩ := s
          dsimp only at *
          have hbk := HBK.out
          have hba := HBA.out
          have hya := below_alloc (Below.refl wr.heap.size wr) (.cells #[.int .i64 sa, .int .i64 sb, .int .i64 sc] 38)
          have hyr := heap_alloc_new wr (.cells #[.int .i64 sa, .int .i64 sb, .int .i64 sc] 38)
          have HB2 := Aside0.mk (hbk.below hya hbk.lt)
          have HA2 := Aside0.mk (below_step hba hya)
          generalize wr.alloc (.cells #[.int .i64 sa, .int .i64 sb, .int .i64 sc] 38) = W2 at hya hyr HB2 HA2 ⊢
          have hy0 : W2.cell? ⟨wr.heap.size, 0, none⟩ = some (.int .i64 sa) := by rw [cell_of_row _ _ _ _ _ _ hyr]; rfl
          have hy1 : W2.cell? ⟨wr.heap.size, 1, none⟩ = some (.int .i64 sb) := by rw [cell_of_row _ _ _ _ _ _ hyr]; rfl
          have hy2 : W2.cell? ⟨wr.heap.size, 2, none⟩ = some (.int .i64 sc) := by rw [cell_of_row _ _ _ _ _ _ hyr]; rfl
          have hz0 := HB2.out.c0
          have HT2 := HT.out.below HA2.out
          have ht0 := HT2.c0
          have ht1 := HT2.c1
          have ht2 := HT2.c2
          have ht3 := HT2.c3
          clear hya hyr hbk hba HT2 HBK HBA
          by_cases b1 : sa < 0
          · have d1 : decide (sa < 0) = true := decide_eq_true (by omega)
            have hr := HS.out
            have hg : goodP t true ⟨sa, sb, sc⟩ = false := by simp [goodP]; omega
            rw [scanP, if_neg (by rw [hg]; decide)] at hr
            subst hr
            clear HS hg
            go_quiet (fail)
            go_wp2_with fail
            go_ret
            exact ⟨rfl, by repeat (first | exact HA2.out | apply pw_below_drewN | apply below_drew1)⟩
          have d1 : decide (sa < 0) = false := decide_eq_false (by omega)
          by_cases b2 : 4 ≤ sa
          · have d2 : decide (4 ≤ sa) = true := decide_eq_true (by omega)
            have hr := HS.out
            have hg : goodP t true ⟨sa, sb, sc⟩ = false := by simp [goodP]; omega
            rw [scanP, if_neg (by rw [hg]; decide)] at hr
            subst hr
            clear HS hg
            go_quiet (fail)
            go_wp2_with fail
            go_ret
            exact ⟨rfl, by repeat (first | exact HA2.out | apply pw_below_drewN | apply below_drew1)⟩
          have d2 : decide (4 ≤ sa) = false := decide_eq_false (by omega)
          by_cases b4 : sc < 0
          · have d4 : decide (sc < 0) = true := decide_eq_true (by omega)
            by_cases b3 : sa = 2
            · have d3 : (sa == 2) = true := by simp; omega
              have hr := HS.out
              have hg : goodP t true ⟨sa, sb, sc⟩ = false := by simp [goodP]; omega
              rw [scanP, if_neg (by rw [hg]; decide)] at hr
              subst hr
              clear HS hg
              go_quiet (fail)
              go_wp2_with fail
              go_ret
              exact ⟨rfl, by repeat (first | exact HA2.out | apply pw_below_drewN | apply below_drew1)⟩
            · have d3 : (sa == 2) = false := by simp; omega
              have hr := HS.out
              have hg : goodP t true ⟨sa, sb, sc⟩ = false := by simp [goodP]; omega
              rw [scanP, if_neg (by rw [hg]; decide)] at hr
              subst hr
              clear HS hg
              go_quiet (fail)
              go_wp2_with fail
              go_ret
              exact ⟨rfl, by repeat (first | exact HA2.out | apply pw_below_drewN | apply below_drew1)⟩
          have d4 : decide (sc < 0) = false := decide_eq_false (by omega)
          by_cases b5 : t < sc
          · have d5 : decide (t < sc) = true := decide_eq_true (by omega)
            by_cases b3 : sa = 2
            · have d3 : (sa == 2) = true := by simp; omega
              have hr := HS.out
              have hg : goodP t true ⟨sa, sb, sc⟩ = false := by simp [goodP]; omega
              rw [scanP, if_neg (by rw [hg]; decide)] at hr
              subst hr
              clear HS hg
              go_quiet (fail)
              go_wp2_with fail
              go_ret
              exact ⟨rfl, by repeat (first | exact HA2.out | apply pw_below_drewN | apply below_drew1)⟩
            · have d3 : (sa == 2) = false := by simp; omega
              have hr := HS.out
              have hg : goodP t true ⟨sa, sb, sc⟩ = false := by simp [goodP]; omega
              rw [scanP, if_neg (by rw [hg]; decide)] at hr
              subst hr
              clear HS hg
              go_quiet (fail)
              go_wp2_with fail
              go_ret
              exact ⟨rfl, by repeat (first | exact HA2.out | apply pw_below_drewN | apply below_drew1)⟩
          have d5 : decide (t < sc) = false := decide_eq_false (by omega)
          have hv : sa = 0 ∨ sa = 1 ∨ sa = 2 ∨ sa = 3 := by omega
          rcases hv with rfl | rfl | rfl | rfl
          · have hw : wrap64 (sc + 0) = sc + 0 := by unfold wrap64; omega
            have hw2 : IntKind.i64.wrap (sc + 0) = sc + 0 := by rw [i64_w]; exact hw
            by_cases b6 : sb = sc + 0
            · subst b6
              go_quiet (fail)
              by_cases b7 : sc = t
              · have d7 : (sc == t) = true := by simp; omega
                have hr := HS.out
                have hg : goodP t true ⟨0, sc + 0, sc⟩ = true := by simp [goodP]; omega
                rw [scanP, if_pos hg, if_pos b7] at hr
                have HR2 := Aside0.mk hr
                clear hr hg HS
                have hw3 : IntKind.i64.wrap (f + 1) = f + 1 := by rw [i64_w]; unfold wrap64; omega
                go_wp2_with fail
                go_roundw
                case rel => exact ⟨i + 1, f + 1, by omega, by first | rfl | go_num, by go_num, by omega, by omega, HR2, ⟨HB2.out.below (pw_below_drewN (Below.refl _ _) _) HB2.out.lt⟩, ⟨by repeat (first | exact HA2.out | apply pw_below_drewN | apply below_drew1)⟩⟩
                case measure => simp [intOf]; omega
              · have d7 : (sc == t) = false := by simp; omega
                have hr := HS.out
                have hg : goodP t true ⟨0, sc + 0, sc⟩ = true := by simp [goodP]; omega
                rw [scanP, if_pos hg, if_neg b7] at hr
                have HR2 := Aside0.mk hr
                clear hr hg HS
                go_wp2_with fail
                go_roundw
                case rel => exact ⟨i + 1, f, by omega, by first | rfl | go_num, by go_num, by omega, by omega, HR2, ⟨HB2.out.below (pw_below_drewN (Below.refl _ _) _) HB2.out.lt⟩, ⟨by repeat (first | exact HA2.out | apply pw_below_drewN | apply below_drew1)⟩⟩
                case measure => simp [intOf]; omega
            · have d6 : (sb != sc + 0) = true := by simp; omega
              have d6b : (sb == sc + 0) = false := by simp; omega
              have hr := HS.out
              have hg : goodP t true ⟨0, sb, sc⟩ = false := by simp [goodP]; omega
              rw [scanP, if_neg (by rw [hg]; decide)] at hr
              subst hr
              clear HS hg
              go_quiet (fail)
              go_wp2_with fail
              go_ret
              exact ⟨rfl, by repeat (first | exact HA2.out | apply pw_below_drewN | apply below_drew1)⟩
          · have hw : wrap64 (sc + 1) = sc + 1 := by unfold wrap64; omega
            have hw2 : IntKind.i64.wrap (sc + 1) = sc + 1 := by rw [i64_w]; exact hw
            by_cases b6 : sb = sc + 1
            · subst b6
              go_quiet (fail)
              by_cases b7 : sc = t
              · have d7 : (sc == t) = true := by simp; omega
                have hr := HS.out
                have hg : goodP t true ⟨1, sc + 1, sc⟩ = false := by simp [goodP]; omega
                rw [scanP, if_neg (by rw [hg]; decide)] at hr
                subst hr
                clear HS hg
                have hw3 : IntKind.i64.wrap (f + 1) = f + 1 := by rw [i64_w]; unfold wrap64; omega
                go_wp2_with fail
                go_ret
                exact ⟨rfl, by repeat (first | exact HA2.out | apply pw_below_drewN | apply below_drew1)⟩
              · have d7 : (sc == t) = false := by simp; omega
                have hr := HS.out
                have hg : goodP t true ⟨1, sc + 1, sc⟩ = true := by simp [goodP]; omega
                rw [scanP, if_pos hg, if_neg b7] at hr
                have HR2 := Aside0.mk hr
                clear hr hg HS
                go_wp2_with fail
                go_roundw
                case rel => exact ⟨i + 1, f, by omega, by first | rfl | go_num, by go_num, by omega, by omega, HR2, ⟨HB2.out.below (pw_below_drewN (Below.refl _ _) _) HB2.out.lt⟩, ⟨by repeat (first | exact HA2.out | apply pw_below_drewN | apply below_drew1)⟩⟩
                case measure => simp [intOf]; omega
            · have d6 : (sb != sc + 1) = true := by simp; omega
              have d6b : (sb == sc + 1) = false := by simp; omega
              have hr := HS.out
              have hg : goodP t true ⟨1, sb, sc⟩ = false := by simp [goodP]; omega
              rw [scanP, if_neg (by rw [hg]; decide)] at hr
              subst hr
              clear HS hg
              go_quiet (fail)
              go_wp2_with fail
              go_ret
              exact ⟨rfl, by repeat (first | exact HA2.out | apply pw_below_drewN | apply below_drew1)⟩
          · have hw : wrap64 (sc + 1) = sc + 1 := by unfold wrap64; omega
            have hw2 : IntKind.i64.wrap (sc + 1) = sc + 1 := by rw [i64_w]; exact hw
            by_cases b6 : sb = sc + 1
            · subst b6
              go_quiet (fail)
              by_cases b7 : sc = t
              · have d7 : (sc == t) = true := by simp; omega
                have hr := HS.out
                have hg : goodP t true ⟨2, sc + 1, sc⟩ = false := by simp [goodP]; omega
                rw [scanP, if_neg (by rw [hg]; decide)] at hr
                subst hr
                clear HS hg
                have hw3 : IntKind.i64.wrap (f + 1) = f + 1 := by rw [i64_w]; unfold wrap64; omega
                go_wp2_with fail
                go_ret
                exact ⟨rfl, by repeat (first | exact HA2.out | apply pw_below_drewN | apply below_drew1)⟩
              · have d7 : (sc == t) = false := by simp; omega
                have hr := HS.out
                have hg : goodP t true ⟨2, sc + 1, sc⟩ = true := by simp [goodP]; omega
                rw [scanP, if_pos hg, if_neg b7] at hr
                have HR2 := Aside0.mk hr
                clear hr hg HS
                go_wp2_with fail
                go_roundw
                case rel => exact ⟨i + 1, f, by omega, by first | rfl | go_num, by go_num, by omega, by omega, HR2, ⟨HB2.out.below (pw_below_drewN (Below.refl _ _) _) HB2.out.lt⟩, ⟨by repeat (first | exact HA2.out | apply pw_below_drewN | apply below_drew1)⟩⟩
                case measure => simp [intOf]; omega
            · have d6 : (sb != sc + 1) = true := by simp; omega
              have d6b : (sb == sc + 1) = false := by simp; omega
              have hr := HS.out
              have hg : goodP t true ⟨2, sb, sc⟩ = false := by simp [goodP]; omega
              rw [scanP, if_neg (by rw [hg]; decide)] at hr
              subst hr
              clear HS hg
              go_quiet (fail)
              go_wp2_with fail
              go_ret
              exact ⟨rfl, by repeat (first | exact HA2.out | apply pw_below_drewN | apply below_drew1)⟩
          · have hw : wrap64 (sc + 1) = sc + 1 := by unfold wrap64; omega
            have hw2 : IntKind.i64.wrap (sc + 1) = sc + 1 := by rw [i64_w]; exact hw
            by_cases b6 : sb = sc + 1
            · subst b6
              go_quiet (fail)
              by_cases b7 : sc = t
              · have d7 : (sc == t) = true := by simp; omega
                have hr := HS.out
                have hg : goodP t true ⟨3, sc + 1, sc⟩ = false := by simp [goodP]; omega
                rw [scanP, if_neg (by rw [hg]; decide)] at hr
                subst hr
                clear HS hg
                have hw3 : IntKind.i64.wrap (f + 1) = f + 1 := by rw [i64_w]; unfold wrap64; omega
                go_wp2_with fail
                go_ret
                exact ⟨rfl, by repeat (first | exact HA2.out | apply pw_below_drewN | apply below_drew1)⟩
              · have d7 : (sc == t) = false := by simp; omega
                have hr := HS.out
                have hg : goodP t true ⟨3, sc + 1, sc⟩ = true := by simp [goodP]; omega
                rw [scanP, if_pos hg, if_neg b7] at hr
                have HR2 := Aside0.mk hr
                clear hr hg HS
                go_wp2_with fail
                go_roundw
                case rel => exact ⟨i + 1, f, by omega, by first | rfl | go_num, by go_num, by omega, by omega, HR2, ⟨HB2.out.below (pw_below_drewN (Below.refl _ _) _) HB2.out.lt⟩, ⟨by repeat (first | exact HA2.out | apply pw_below_drewN | apply below_drew1)⟩⟩
                case measure => simp [intOf]; omega
            · have d6 : (sb != sc + 1) = true := by simp; omega
              have d6b : (sb == sc + 1) = false := by simp; omega
              have hr := HS.out
              have hg : goodP t true ⟨3, sb, sc⟩ = false := by simp [goodP]; omega
              rw [scanP, if_neg (by rw [hg]; decide)] at hr
              subst hr
              clear HS hg
              go_quiet (fail)
              go_wp2_with fail
              go_ret
              exact ⟨rfl, by repeat (first | exact HA2.out | apply pw_below_drewN | apply below_drew1)⟩
        · obtain rfl : i = n1 := by omega
          have hd1 : decide ((i : Int) < (i : Int)) = false := by simp
          have hr := HR.out
          rw [List.drop_eq_nil_of_le (by have := HN1.out; omega)] at hr
          have HR2 := Aside0.mk (show finP fl f = r from hr)
          clear hr HR
          go_wp2_with fail
          go_roundw
          case rel => exact ⟨f, rfl, by omega, by omega, .inr (.inr ⟨rfl, HR2⟩), HBK, HBA⟩
          case measure => simp [intOf]
    · have hr := HR.out
      have hz3 := HBK.out.c3
      unfold finP at hr
      by_cases g1 : 1 < f
      · rw [if_pos (.inl g1)] at hr
        subst hr
        have d1 : decide (1 < f) = true := decide_eq_true g1
        clear HR
        go_wp2_with fail
        go_ret
        exact ⟨rfl, by repeat (first | exact HBA.out | apply pw_below_drewN | apply below_drew1)⟩
      · have d1 : decide (1 < f) = false := decide_eq_false g1
        by_cases g2 : fl = decide (f = 1)
        · rw [if_neg (by rintro (h | h); exact g1 h; exact h g2)] at hr
          subst hr
          clear HR
          by_cases g3 : f = 1
          · have d3 : (f == 1) = true := by simp; omega
            obtain rfl : fl = true := by rw [g2]; exact decide_eq_true g3
            clear g2 g3 g1
            go_wp2_with fail
            go_ret
            exact ⟨rfl, by repeat (first | exact HBA.out | apply pw_below_drewN | apply below_drew1)⟩
          · have d3 : (f == 1) = false := by simp; omega
            obtain rfl : fl = false := by rw [g2]; exact decide_eq_false g3
            clear g2 g3 g1
            go_wp2_with fail
            go_ret
            exact ⟨rfl, by repeat (first | exact HBA.out | apply pw_below_drewN | apply below_drew1)⟩
        · rw [if_pos (.inr g2)] at hr
          subst hr
          clear HR
          by_cases g3 : f = 1
          · have d3 : (f == 1) = true := by simp; omega
            obtain rfl : fl = false := by rw [decide_eq_true g3] at g2; cases fl <;> simp_all
            go_wp2_with fail
            go_ret
            exact ⟨rfl, by repeat (first | exact HBA.out | apply pw_below_drewN | apply below_drew1)⟩
          · have d3 : (f == 1) = false := by simp; omega
            obtain rfl : fl = true := by rw [decide_eq_false g3] at g2; cases fl <;> simp_all
            go_wp2_with fail
            go_ret
            exact ⟨rfl, by repeat (first | exact HBA.out | apply pw_below_drewN | apply below_drew1)⟩
end Go.Proofs.YtponmfnegdlppaaDoor.P

end
section
/- What is done to a task in its place: the four function values. -/
namespace Go.Proofs.YtponmfnegdlppaaDoor.P
open Go.RowKit Go.Proofs.YtponmfnegdlppaaDoorW.PrintWords Go.Proofs.YtponmfnegdlppaaDoorW.PrintLast Go.Proofs.YtponmfnegdlppaaDoorW.PrintMore
set_option linter.unusedVariables false
set_option linter.unusedSimpArgs false

theorem setCell_id (W : World) (g off : Nat) (v : Value) (h : W.cell? ⟨g, off, none⟩ = some v) : W.setCell ⟨g, off, none⟩ v = W := by
  have hh : (W.setCell ⟨g, off, none⟩ v).heap = W.heap := by
    unfold World.setCell
    simp only
    apply Array.ext_getElem?
    intro k
    rw [Array.getElem?_modify]
    by_cases hk : g = k
    · subst hk
      rw [if_pos rfl]
      unfold World.cell? at h
      cases hx : W.heap[g]? with
      | none => rfl
      | some o =>
        rw [hx] at h
        cases o with
        | cells c e fr =>
          simp only [Option.isSome_none, Bool.false_eq_true, if_false] at h
          simp only [Option.map_some, Option.isSome_none, Bool.false_eq_true, if_false]
          congr 2
          apply Array.ext_getElem?
          intro j
          rw [Array.getElem?_setIfInBounds]
          split
          · rename_i hj
            subst hj
            split
            · exact h.symm
            · rename_i hj2
              rw [Array.getElem?_eq_none (by omega)] at h
              cases h
          · rfl
        | _ => rfl
    · rw [if_neg hk]
  unfold World.setCell at hh ⊢
  simp only at hh ⊢
  rw [hh]
theorem setCell_swap (W : World) (g o1 o2 : Nat) (v1 v2 : Value) (h : o1 ≠ o2) : (W.setCell ⟨g, o1, none⟩ v1).setCell ⟨g, o2, none⟩ v2 = (W.setCell ⟨g, o2, none⟩ v2).setCell ⟨g, o1, none⟩ v1 := by
  unfold World.setCell
  simp only
  congr 1
  apply Array.ext_getElem?
  intro k
  simp only [Array.getElem?_modify]
  by_cases hk : g = k
  · subst hk
    simp only [if_pos]
    cases W.heap[g]? with
    | none => rfl
    | some o =>
      cases o with
      | cells c e fr =>
        simp only [Option.map_some, Option.isSome_none, Bool.false_eq_true, if_false]
        rw [Array.setIfInBounds_comm _ _ h]
      | _ => rfl
  · simp only [if_neg hk]
/-- a task's cells and the book's last one written -/
def put4 (W : World) (gs off : Nat) (s : S38) (gb : Nat) (fl : Bool) : World := (((W.setCell ⟨gs, off, none⟩ (.int .i64 s.f0)).setCell ⟨gs, off + 1, none⟩ (.int .i64 s.f1)).setCell ⟨gs, off + 2, none⟩ (.int .i64 s.f2)).setCell ⟨gb, 3, none⟩ (.bool fl)
/-- where a task lies -/
structure taskAt (W : World) (gs off : Nat) (s : S38) : Prop where
  c0 : W.cell? ⟨gs, off, none⟩ = some (.int .i64 s.f0)
  c1 : W.cell? ⟨gs, off + 1, none⟩ = some (.int .i64 s.f1)
  c2 : W.cell? ⟨gs, off + 2, none⟩ = some (.int .i64 s.f2)
  f0 : W.frozen? ⟨gs, off, none⟩ = false
  f1 : W.frozen? ⟨gs, off + 1, none⟩ = false
  f2 : W.frozen? ⟨gs, off + 2, none⟩ = false

section
variable {W : World} {gb gs off : Nat} {t : Int} {u0 u1 : Value} {fl : Bool} {s : S38}
theorem put4_0 (hb : bookAt W gb t u0 u1 fl) (ht : taskAt W gs off s) (hne : gs ≠ gb) (x : Int) : put4 W gs off ⟨x, s.f1, s.f2⟩ gb fl = W.setCell ⟨gs, off, none⟩ (.int .i64 x) := by
  unfold put4
  dsimp only
  rw [setCell_id (W.setCell ⟨gs, off, none⟩ (.int .i64 x)) gs (off + 1) _ ((World.cell?_setCell_other _ _ _ _ (by simp)).trans ht.c1),
    setCell_id (W.setCell ⟨gs, off, none⟩ (.int .i64 x)) gs (off + 2) _ ((World.cell?_setCell_other _ _ _ _ (by simp)).trans ht.c2),
    setCell_id _ gb 3 _ ((World.cell?_setCell_other _ _ _ _ (by simp [hne])).trans hb.c3)]
end
set_option maxHeartbeats 4000000 in
set_option maxRecDepth 100000 in
theorem do_done (W : World) (gb gs off : Nat) (t : Int) (u0 u1 : Value) (fl : Bool) (s : S38) (hb : bookAt W gb t u0 u1 fl) (ht : taskAt W gs off s) (hne : gs ≠ gb) :
    Calls Tryd.prog 46 #[.pointer (some ⟨gb, 0, none⟩), .pointer (some ⟨gs, off, none⟩)] W fun e w' => e = .returned (.tuple #[]) ∧ ∃ q, w' = (put4 W gs off ⟨3, s.f1, s.f2⟩ gb fl).drewN q := by
  rw [put4_0 hb ht hne]
  have h0 := ht.c0
  have h3 := ht.f0
  have hu38 := Tryd.underlying38
  clear hb ht
  go_enter Tryd.func46, Tryd.ntmps46
  go_wp2_with fail
  go_end0
  exact ⟨rfl, 0, rfl⟩
set_option maxHeartbeats 4000000 in
set_option maxRecDepth 100000 in
theorem do_hold (W : World) (gb gs off : Nat) (t : Int) (u0 u1 : Value) (fl : Bool) (s : S38) (hb : bookAt W gb t u0 u1 fl) (ht : taskAt W gs off s) (hne : gs ≠ gb) :
    Calls Tryd.prog 59 #[.pointer (some ⟨gb, 0, none⟩), .pointer (some ⟨gs, off, none⟩)] W fun e w' => e = .returned (.tuple #[]) ∧ ∃ q, w' = (put4 W gs off ⟨2, s.f1, s.f2⟩ gb fl).drewN q := by
  rw [put4_0 hb ht hne]
  have h0 := ht.c0
  have h3 := ht.f0
  have hu38 := Tryd.underlying38
  clear hb ht
  go_enter Tryd.func59, Tryd.ntmps59
  go_wp2_with fail
  go_end0
  exact ⟨rfl, 0, rfl⟩
section
variable {W : World} {gb gs off : Nat} {t : Int} {u0 u1 : Value} {fl : Bool} {s : S38}
theorem put4_1 (hb : bookAt W gb t u0 u1 fl) (ht : taskAt W gs off s) (hne : gs ≠ gb) (x y : Int) : put4 W gs off ⟨x, y, s.f2⟩ gb fl = (W.setCell ⟨gs, off, none⟩ (.int .i64 x)).setCell ⟨gs, off + 1, none⟩ (.int .i64 y) := by
  unfold put4
  dsimp only
  rw [setCell_id ((W.setCell ⟨gs, off, none⟩ (.int .i64 x)).setCell ⟨gs, off + 1, none⟩ (.int .i64 y)) gs (off + 2) _ ((World.cell?_setCell_other _ _ _ _ (by simp)).trans ((World.cell?_setCell_other _ _ _ _ (by simp)).trans ht.c2)),
    setCell_id _ gb 3 _ ((World.cell?_setCell_other _ _ _ _ (by simp [hne])).trans ((World.cell?_setCell_other _ _ _ _ (by simp [hne])).trans hb.c3))]
theorem put4_2 (hb : bookAt W gb t u0 u1 fl) (ht : taskAt W gs off s) (hne : gs ≠ gb) (x z : Int) (f : Bool) : put4 W gs off ⟨x, s.f1, z⟩ gb f = ((W.setCell ⟨gs, off, none⟩ (.int .i64 x)).setCell ⟨gs, off + 2, none⟩ (.int .i64 z)).setCell ⟨gb, 3, none⟩ (.bool f) := by
  unfold put4
  dsimp only
  rw [setCell_id (W.setCell ⟨gs, off, none⟩ (.int .i64 x)) gs (off + 1) _ ((World.cell?_setCell_other _ _ _ _ (by simp)).trans ht.c1)]
end
set_option maxHeartbeats 4000000 in
set_option maxRecDepth 100000 in
theorem do_begin (W : World) (gb gs off gn : Nat) (n : Int) (t : Int) (u0 u1 : Value) (fl : Bool) (s : S38) (hb : bookAt W gb t u0 u1 fl) (ht : taskAt W gs off s) (hne : gs ≠ gb) (hn : W.cell? ⟨gn, 0, none⟩ = some (.int .i64 n)) (hng : gn ≠ gs) :
    Calls Tryd.prog 57 #[.pointer (some ⟨gb, 0, none⟩), .pointer (some ⟨gs, off, none⟩), .pointer (some ⟨gn, 0, none⟩)] W fun e w' => e = .returned (.tuple #[]) ∧ ∃ q, w' = (put4 W gs off ⟨1, n, s.f2⟩ gb fl).drewN q := by
  rw [put4_1 hb ht hne]
  have hsw := setCell_swap W gs off (off + 1) (.int .i64 1) (.int .i64 n) (by omega)
  have h0 := ht.c0
  have h1 := ht.c1
  have h3 := ht.f0
  have h4 := ht.f1
  have hu38 := Tryd.underlying38
  have HSW := Aside0.mk hsw
  clear hb ht hsw
  go_enter Tryd.func57, Tryd.ntmps57
  go_wp2_with fail
  go_region
  all_goals go_end0
  all_goals first | exact ⟨rfl, 1, rfl⟩ | exact ⟨rfl, 1, by rw [HSW.out]; rfl⟩
set_option maxHeartbeats 4000000 in
set_option maxRecDepth 100000 in
theorem do_charge (W : World) (gb gs off : Nat) (t : Int) (u0 u1 : Value) (fl : Bool) (s : S38) (hb : bookAt W gb t u0 u1 fl) (ht : taskAt W gs off s) (hne : gs ≠ gb) (h0 : 0 ≤ s.f2) (h16 : s.f2 ≤ 1000) :
    Calls Tryd.prog 50 #[.pointer (some ⟨gb, 0, none⟩), .pointer (some ⟨gs, off, none⟩)] W fun e w' => e = .returned (.tuple #[]) ∧ ∃ q, w' = (put4 W gs off ⟨0, s.f1, s.f2 + 1⟩ gb (fl || decide (s.f2 + 1 = t))).drewN q := by
  rw [put4_2 hb ht hne]
  have hx0 := ht.c0
  have hx2 := ht.c2
  have hf0 := ht.f0
  have hf2 := ht.f2
  have hz0 := hb.c0
  have hz3 := hb.c3
  have hzf : W.frozen? ⟨gb, 3, none⟩ = false := frozen_of_row _ _ _ _ _ hb
  have hw2 : IntKind.i64.wrap (s.f2 + 1) = s.f2 + 1 := by rw [i64_w]; unfold wrap64; omega
  have hu38 := Tryd.underlying38
  have hu24 := Tryd.underlying24
  clear hb ht h0 h16
  generalize s.f2 = c at *
  generalize s.f0 = a at *
  go_enter Tryd.func50, Tryd.ntmps50
  go_wp2_with fail
  have hy0 : ((W.setCell ⟨gs, off, none⟩ (.int .i64 0)).setCell ⟨gs, off + 2, none⟩ (.int .i64 (c + 1))).cell? ⟨gb, 0, none⟩ = some (.int .i64 t) := (World.cell?_setCell_other _ _ _ _ (by simp [hne])).trans ((World.cell?_setCell_other _ _ _ _ (by simp [hne])).trans hz0)
  have hy3 : ((W.setCell ⟨gs, off, none⟩ (.int .i64 0)).setCell ⟨gs, off + 2, none⟩ (.int .i64 (c + 1))).cell? ⟨gb, 3, none⟩ = some (.bool fl) := (World.cell?_setCell_other _ _ _ _ (by simp [hne])).trans ((World.cell?_setCell_other _ _ _ _ (by simp [hne])).trans hz3)
  have hy2 : ((W.setCell ⟨gs, off, none⟩ (.int .i64 0)).setCell ⟨gs, off + 2, none⟩ (.int .i64 (c + 1))).cell? ⟨gs, off + 2, none⟩ = some (.int .i64 (c + 1)) := World.cell?_setCell_same _ _ _ ((World.cell?_setCell_other _ _ _ _ (by simp)).trans hx2)
  have hyf : ((W.setCell ⟨gs, off, none⟩ (.int .i64 0)).setCell ⟨gs, off + 2, none⟩ (.int .i64 (c + 1))).frozen? ⟨gb, 3, none⟩ = false := by rw [World.frozen?_setCell, World.frozen?_setCell]; exact hzf
  obtain ⟨W2, hW2⟩ : ∃ W2, W2 = (W.setCell ⟨gs, off, none⟩ (.int .i64 0)).setCell ⟨gs, off + 2, none⟩ (.int .i64 (c + 1)) := ⟨_, rfl⟩
  rw [← hW2] at hy0 hy3 hy2 hyf ⊢
  have HW2 := Aside0.mk hW2
  clear hW2
  clear hf0 hf2 hz0 hz3 hzf hw2 hne
  cases fl
  · by_cases hc : c + 1 = t
    · have d1 : (c + 1 == t) = true := by simp; omega
      have HC := Aside0.mk (decide_eq_true hc)
      clear hc
      go_region
      all_goals go_end0
      all_goals exact ⟨rfl, 1, by rw [← HW2.out, HC.out]; rfl⟩
    · have d1 : (c + 1 == t) = false := by simp; omega
      have HC := Aside0.mk (decide_eq_false hc)
      clear hc
      go_region
      all_goals go_end0
      all_goals exact ⟨rfl, 1, by rw [← HW2.out, HC.out]; rfl⟩
  · go_region
    all_goals go_end0
    all_goals exact ⟨rfl, 1, by rw [← HW2.out]; rfl⟩
end Go.Proofs.YtponmfnegdlppaaDoor.P

end
section
/- ledger.state and ledger.changed, by hand (printed by HChanged.gen.py). -/
namespace Go.Proofs.YtponmfnegdlppaaDoor.P
open Go.RowKit Go.Proofs.YtponmfnegdlppaaDoorW.PrintWords Go.Proofs.YtponmfnegdlppaaDoorW.PrintLast Go.Proofs.YtponmfnegdlppaaDoorW.PrintMore
set_option linter.unusedVariables false
set_option linter.unusedSimpArgs false

set_option maxHeartbeats 4000000 in
set_option maxRecDepth 100000 in
theorem state_map (W : World) (gb : Nat) (t : Int) (ad : Addr) (n0 c0 : Nat) (u1 : Value) (fl : Bool) (b : Int) (hb : bookAt W gb t (.slice (some ad) n0 c0) u1 fl) (h0 : 0 ≤ b) (h1 : b < n0) :
    Calls Tryd.prog 55 #[.pointer (some ⟨gb, 0, none⟩), .agg #[.int .i64 0, .int .i64 b]] W fun e w' => e = .returned (.pointer (some (ad.add (b.toNat * 3)))) ∧ Below W.heap.size W w' := by
  have hba := below_alloc (Below.refl W.heap.size W) (.cells #[.int .i64 0, .int .i64 b] 29)
  have hx1 : (W.alloc (.cells #[.int .i64 0, .int .i64 b] 29)).cell? ⟨gb, 1, none⟩ = some (.slice (some ad) n0 c0) := (hba.cell hb.lt).trans hb.c1
  have HBA := Aside0.mk hba
  have hu22 := Tryd.underlying22
  have hu29 := Tryd.underlying29
  have hu24 := Tryd.underlying24
  have hu38 := Tryd.underlying38
  clear hb hba
  have p1 := eq_true h0
  have p2 := eq_true h1
  go_enter Tryd.func55, Tryd.ntmps55
  go_wp2_with fail
  go_quiet (fail)
  go_wp2_with fail
  go_ret
  exact ⟨rfl, by repeat (first | exact HBA.out | apply pw_below_drewN | apply below_drew1)⟩
set_option maxHeartbeats 4000000 in
set_option maxRecDepth 100000 in
theorem state_red (W : World) (gb : Nat) (t : Int) (ad : Addr) (n0 c0 : Nat) (u1 : Value) (fl : Bool) (b : Int) (hb : bookAt W gb t u1 (.slice (some ad) n0 c0) fl) (h0 : 0 ≤ b) (h1 : b < n0) :
    Calls Tryd.prog 55 #[.pointer (some ⟨gb, 0, none⟩), .agg #[.int .i64 1, .int .i64 b]] W fun e w' => e = .returned (.pointer (some (ad.add (b.toNat * 3)))) ∧ Below W.heap.size W w' := by
  have hba := below_alloc (Below.refl W.heap.size W) (.cells #[.int .i64 1, .int .i64 b] 29)
  have hx1 : (W.alloc (.cells #[.int .i64 1, .int .i64 b] 29)).cell? ⟨gb, 2, none⟩ = some (.slice (some ad) n0 c0) := (hba.cell hb.lt).trans hb.c2
  have HBA := Aside0.mk hba
  have hu22 := Tryd.underlying22
  have hu29 := Tryd.underlying29
  have hu24 := Tryd.underlying24
  have hu38 := Tryd.underlying38
  clear hb hba
  have p1 := eq_true h0
  have p2 := eq_true h1
  go_enter Tryd.func55, Tryd.ntmps55
  go_wp2_with fail
  go_quiet (fail)
  go_wp2_with fail
  go_ret
  exact ⟨rfl, by repeat (first | exact HBA.out | apply pw_below_drewN | apply below_drew1)⟩

theorem own_ne {k g n c : Nat} (h : k ≠ g) : some k ≠ (Value.slice (some ⟨g, 0, none⟩) n c).ownBlock := by
  intro e
  have : k = g := by simpa [Value.ownBlock] using e
  exact h this
theorem addr0 (g b : Nat) : (⟨g, 0, none⟩ : Addr).add ((b : Int).toNat * 3) = ⟨g, b * 3, none⟩ := by
  rw [Int.toNat_natCast]
  unfold Addr.add
  by_cases h : b * 3 = 0
  · rw [h]; rfl
  · simp [h]
theorem state_map_own (W : World) (gb : Nat) (t : Int) (g n0 c0 : Nat) (u1 : Value) (fl : Bool) (b : Nat) (hb : bookAt W gb t (.slice (some ⟨g, 0, none⟩) n0 c0) u1 fl) (h1 : b < n0) :
    Calls Tryd.prog 55 #[.pointer (some ⟨gb, 0, none⟩), .agg #[.int .i64 0, .int .i64 b]] W fun e w' => e = .returned (.pointer (some ⟨g, b * 3, none⟩)) ∧ Below W.heap.size W w' := by
  have h := state_map W gb t ⟨g, 0, none⟩ n0 c0 u1 fl b hb (by omega) (by omega)
  rw [addr0] at h
  exact h
theorem state_red_own (W : World) (gb : Nat) (t : Int) (g n0 c0 : Nat) (u1 : Value) (fl : Bool) (b : Nat) (hb : bookAt W gb t u1 (.slice (some ⟨g, 0, none⟩) n0 c0) fl) (h1 : b < n0) :
    Calls Tryd.prog 55 #[.pointer (some ⟨gb, 0, none⟩), .agg #[.int .i64 1, .int .i64 b]] W fun e w' => e = .returned (.pointer (some ⟨g, b * 3, none⟩)) ∧ Below W.heap.size W w' := by
  have h := state_red W gb t ⟨g, 0, none⟩ n0 c0 u1 fl b hb (by omega) (by omega)
  rw [addr0] at h
  exact h
/-- an empty row, new -/
theorem R_none (W : World) (base : Nat) (hb : base ≤ W.heap.size) : Kd.R k38 38 (W.alloc (.cells #[] 38)) base (fun k => W.heap.size ≤ k) (.slice (some ⟨W.heap.size, 0, none⟩) 0 0) [] :=
  ⟨fun k hk => by have : W.heap.size = k := by simpa [Value.ownBlock] using hk
                  omega, [], World.ownsRow_lit (base := base) (e := 38) (size := k38.sz) W #[] 0 hb (by simp [maxLen]) (by simp), Reps.none _ _⟩
theorem taskAt_own {W : World} {base g n c : Nat} {P : Nat → Prop} {l : List S38} (h : Kd.R k38 38 W base P (.slice (some ⟨g, 0, none⟩) n c) l) (i : Nat) (hi : i < n) : taskAt W g (i * 3) (rd_T38 l (i : Int)) := by
  obtain ⟨ce, hcl, hM, hcc, hfr⟩ := Kd.R_elem h z38 (i : Int) (by omega) (by omega)
  obtain rfl := k38_openM hM
  rw [Int.toNat_natCast] at hcc hfr
  have e : l.getD i z38 = rd_T38 l (i : Int) := by unfold rd_T38; rw [Int.toNat_natCast]
  rw [e] at hcc
  exact ⟨hcc 0 _ rfl, hcc 1 _ rfl, hcc 2 _ rfl, hfr 0, hfr 1, hfr 2⟩
theorem R_put4 {W : World} {base g n c gb : Nat} {P : Nat → Prop} {l : List S38} (h : Kd.R k38 38 W base P (.slice (some ⟨g, 0, none⟩) n c) l) (i : Nat) (hi : i < n) (x : S38) (fl : Bool) (hP : ¬ P gb) :
    Kd.R k38 38 (put4 W g (i * 3) x gb fl) base P (.slice (some ⟨g, 0, none⟩) n c) (l.set i x) := by
  obtain ⟨ce, hcl, hM, hcc, hfr⟩ := Kd.R_elem h z38 (i : Int) (by omega) (by omega)
  obtain rfl := k38_openM hM
  have hR := Kd.R_seg h (i : Int) (by omega) (by omega) (seg := [.int .i64 x.f0, .int .i64 x.f1, .int .i64 x.f2]) (j := 0) hcl hcc (show 3 ≤ 3 from by decide) (x' := x) (k38_mkM _ _ _ x) (fun _ hk => hk)
  rw [Int.toNat_natCast] at hR
  exact Kd.R_far hR.1 (fun k hk => by rintro rfl; exact hP hk) _
theorem put4_heap (W : World) (gs off : Nat) (s : S38) (gb : Nat) (fl : Bool) (k : Nat) (h1 : k ≠ gs) (h2 : k ≠ gb) : (put4 W gs off s gb fl).heap[k]? = W.heap[k]? := by
  unfold put4
  rw [Below.heap_setCell _ _ _ _ h2, Below.heap_setCell _ _ _ _ h1, Below.heap_setCell _ _ _ _ h1, Below.heap_setCell _ _ _ _ h1]
theorem R_put4_far {W : World} {base gs off gb : Nat} {P : Nat → Prop} {v : Value} {l : List S38} (h : Kd.R k38 38 W base P v l) (x : S38) (fl : Bool) (h1 : ¬ P gs) (h2 : ¬ P gb) : Kd.R k38 38 (put4 W gs off x gb fl) base P v l :=
  Kd.R_far (Kd.R_far (Kd.R_far (Kd.R_far h (p := ⟨gs, off, none⟩) (fun k hk => by rintro rfl; exact h1 hk) _) (p := ⟨gs, off + 1, none⟩) (fun k hk => by rintro rfl; exact h1 hk) _) (p := ⟨gs, off + 2, none⟩) (fun k hk => by rintro rfl; exact h1 hk) _) (p := ⟨gb, 3, none⟩) (fun k hk => by rintro rfl; exact h2 hk) _
theorem book_put4 {W : World} {gs off gb : Nat} {t : Int} {u0 u1 : Value} {fl : Bool} (h : bookAt W gb t u0 u1 fl) (x : S38) (f : Bool) (hne : gs ≠ gb) : bookAt (put4 W gs off x gb f) gb t u0 u1 f := by
  unfold put4
  refine blk_put (cs := #[.int .i64 t, u0, u1, .bool fl]) ?_ 3 _ rfl
  rw [Below.heap_setCell _ _ _ _ (Ne.symm hne), Below.heap_setCell _ _ _ _ (Ne.symm hne), Below.heap_setCell _ _ _ _ (Ne.symm hne)]
  exact h
theorem below_put4 {w0 W : World} {base gs off gb : Nat} (h : Below base w0 W) (x : S38) (f : Bool) (h1 : base ≤ gs) (h2 : base ≤ gb) : Below base w0 (put4 W gs off x gb f) :=
  (((h.setCell h1 _).setCell h1 _).setCell h1 _).setCell h2 _
theorem size_put4 (W : World) (gs off : Nat) (x : S38) (gb : Nat) (f : Bool) : (put4 W gs off x gb f).heap.size = W.heap.size := by
  unfold put4
  simp

set_option maxHeartbeats 4000000 in
set_option maxRecDepth 100000 in
theorem changed_map (fid : Nat) (cap : Array Value) (hE : Enters Tryd.prog fid) (t : Int) (fl : Bool) (A0 : Option Addr) (c0 : Nat) (l0 : List S38) (A1 : Option Addr) (c1 : Nat) (l1 : List S38) (b : Nat) (s' : S38) (fl' : Bool) (w : World)
    (h0 : Kd.C k38 w A0 l0.length l0) (h1 : Kd.C k38 w A1 l1.length l1) (hl0 : l0.length ≤ 100000) (hl1 : l1.length ≤ 100000) (hb : b < l0.length)
    (hdo : ∀ (W : World) (gb gs off : Nat) (u0 u1 : Value), bookAt W gb t u0 u1 fl → taskAt W gs off (rd_T38 l0 (b : Int)) → gs ≠ gb → w.heap.size ≤ gs → Below w.heap.size w W →
      Calls Tryd.prog fid (#[.pointer (some ⟨gb, 0, none⟩), .pointer (some ⟨gs, off, none⟩)] ++ cap) W fun e w' => e = .returned (.tuple #[]) ∧ ∃ q, w' = (put4 W gs off s' gb fl').drewN q) :
    Calls Tryd.prog 56 #[.agg #[.int .i64 t, .slice A0 l0.length c0, .slice A1 l1.length c1, .bool fl], .agg #[.int .i64 0, .int .i64 b], .func (.func fid) #[] cap] w fun e w' =>
      ∃ v1 v2 : Value, e = .returned (.agg #[.int .i64 t, v1, v2, .bool fl']) ∧ Kd.R k38 38 w' w.heap.size (fun k => some k ≠ v2.ownBlock) v1 (l0.set b s') ∧ Kd.R k38 38 w' w.heap.size (fun k => some k ≠ v1.ownBlock) v2 l1 ∧ Below w.heap.size w w' := by
  have H0 := Aside0.mk h0
  have H1 := Aside0.mk h1
  have HL0 := Aside0.mk hl0
  have HL1 := Aside0.mk hl1
  have HBI := Aside0.mk hb
  have HDO := Aside0.mk hdo
  clear h0 h1 hl0 hl1 hb hdo
  have hu22 := Tryd.underlying22
  have hu29 := Tryd.underlying29
  have hu24 := Tryd.underlying24
  have hu38 := Tryd.underlying38
  have hw3 : ∃ W3, W3 = ((w.alloc (.cells #[.int .i64 t, .slice A0 l0.length c0, .slice A1 l1.length c1, .bool fl] 24)).alloc (.cells #[.int .i64 0, .int .i64 b] 29)).alloc (.cells #[.int .i64 0, .slice none 0 0, .slice none 0 0, .bool false] 24) := ⟨_, rfl⟩
  obtain ⟨W3, hW3⟩ := hw3
  have q0 : Below w.heap.size w W3 := by rw [hW3]; exact below_alloc (below_alloc (below_alloc (Below.refl _ _) _) _) _
  have q1 : W3.heap.size = w.heap.size + 3 := by rw [hW3]; simp
  have q2 : bookAt W3 w.heap.size t (.slice A0 l0.length c0) (.slice A1 l1.length c1) fl := by
    rw [hW3]
    have e1 := heap_alloc_new w (.cells #[.int .i64 t, .slice A0 l0.length c0, .slice A1 l1.length c1, .bool fl] 24)
    exact ((below_alloc (below_alloc (Below.refl _ _) _) _).block w.heap.size (by simp)).trans e1
  have q3 : W3.heap[w.heap.size + 1]? = some (.cells #[.int .i64 0, .int .i64 b] 29 (0, 0)) := by
    rw [hW3]
    have e1 := heap_alloc_new (w.alloc (.cells #[.int .i64 t, .slice A0 l0.length c0, .slice A1 l1.length c1, .bool fl] 24)) (.cells #[.int .i64 0, .int .i64 b] 29)
    rw [show (w.alloc (.cells #[.int .i64 t, .slice A0 l0.length c0, .slice A1 l1.length c1, .bool fl] 24)).heap.size = w.heap.size + 1 from by simp] at e1
    exact ((below_alloc (Below.refl _ _) _).block (w.heap.size + 1) (by simp)).trans e1
  have q4 : W3.heap[w.heap.size + 1 + 1]? = some (.cells #[.int .i64 0, .slice none 0 0, .slice none 0 0, .bool false] 24 (0, 0)) := by
    rw [hW3]
    have e1 := heap_alloc_new ((w.alloc (.cells #[.int .i64 t, .slice A0 l0.length c0, .slice A1 l1.length c1, .bool fl] 24)).alloc (.cells #[.int .i64 0, .int .i64 b] 29)) (.cells #[.int .i64 0, .slice none 0 0, .slice none 0 0, .bool false] 24)
    rw [show ((w.alloc (.cells #[.int .i64 t, .slice A0 l0.length c0, .slice A1 l1.length c1, .bool fl] 24)).alloc (.cells #[.int .i64 0, .int .i64 b] 29)).heap.size = w.heap.size + 1 + 1 from by simp] at e1
    exact e1
  have Q0 := Aside0.mk q0
  have Q1 := Aside0.mk q1
  have Q2 := Aside0.mk q2
  have Q3 := Aside0.mk q3
  have Q4 := Aside0.mk q4
  have HW3 := Aside0.mk hW3
  clear q0 q1 q2 q3 q4 hW3
  go_enter Tryd.func56, Tryd.ntmps56
  go_upto_region 1 with (fail)
  rw [← HW3.out]
  clear HW3
  have hx1 : (W3.alloc (.cells #[] 38)).cell? ⟨w.heap.size, 1, none⟩ = some (.slice A0 l0.length c0) := ((below_alloc (Below.refl _ _) _).cell Q2.out.lt).trans Q2.out.c1
  go_upto_region 2 with ((with_reducible refine gate_builtin (b := .append) (xs := #[.tmp 7, .tmp 9]) rfl ?_); at_builtin; go_must (refine Kd.R_append_rows k38 (w0 := w) w.heap.size rfl (.tmp 7) (.tmp 9) 22 38 (.agg #[(.int .i64 0), (.int .i64 0), (.int .i64 0)]) 24 rfl Tryd.underlying22 info38 rfl (by decide) (by omega) _ [] l0 _ _ _ (fun k => w.heap.size + 3 ≤ k) (fun _ => False) rfl rfl ?aO ?aR (fun _ _ h => h) (fun _ h => h.elim) ?aF ?aB ?aS ?aL ?_; (case aO => exact Kd.R_mono (R_none W3 _ (by have := Q1.out; omega)) (fun k hk => by have := Q1.out; omega)); (case aR => exact Kd.C_below H0.out (below_alloc Q0.out _)); (case aF => exact fun k hk => by (have := Q1.out; simp at hk; omega)); (case aB => exact below_alloc Q0.out _); (case aS => (have := Q1.out; simp; omega)); (case aL => have := HL0.out; simp; omega); intro v1 w1 ho hb hg hat; rw [List.nil_append] at ho; obtain ⟨B0, d0, e0⟩ := Kd.R_slice ho; subst e0; have HO := Aside0.mk ho; have HB1 := Aside0.mk hb; have HK := Aside0.mk (show ∀ k, k < W3.heap.size → w1.heap[k]? = W3.heap[k]? from fun k hk => (hg.block k (by simp; omega) (own_ne (by omega))).trans ((below_alloc (Below.refl _ _) _).block k hk)); clear ho hb hg hat hx1; have HBK := Aside0.mk (show bookAt w1 w.heap.size t (.slice A0 l0.length c0) (.slice A1 l1.length c1) fl from (HK.out _ (by have := Q1.out; omega)).trans Q2.out); have hx1 := HBK.out.c1; have hf1 : w1.frozen? ⟨w.heap.size, 1, none⟩ = false := frozen_of_row _ _ _ _ _ HBK.out))
  obtain ⟨W4, hW4⟩ : ∃ W4, W4 = w1.setCell ⟨w.heap.size, 1, none⟩ (.slice B0 l0.length d0) := ⟨_, rfl⟩
  rw [← hW4]
  have P1 := Aside0.mk (show bookAt W4 w.heap.size t (.slice B0 l0.length d0) (.slice A1 l1.length c1) fl from by rw [hW4]; exact blk_put (cs := #[.int .i64 t, .slice A0 l0.length c0, .slice A1 l1.length c1, .bool fl]) HBK.out 1 _ rfl)
  have PS := Aside0.mk (show w.heap.size + 3 ≤ W4.heap.size from by
    have h1 := HBK.out.lt
    have h2 := (Array.getElem?_eq_some_iff.1 ((HK.out (w.heap.size + 1 + 1) (by have := Q1.out; omega)).trans Q4.out)).1
    rw [hW4]
    simp
    omega)
  have P2 := Aside0.mk (show W4.heap[w.heap.size + 1]? = some (.cells #[.int .i64 0, .int .i64 b] 29 (0, 0)) from by rw [hW4, Below.heap_setCell _ _ _ _ (show w.heap.size + 1 ≠ w.heap.size by omega)]; exact (HK.out _ (by have := Q1.out; omega)).trans Q3.out)
  have P3 := Aside0.mk (show W4.heap[w.heap.size + 1 + 1]? = some (.cells #[.int .i64 0, .slice none 0 0, .slice none 0 0, .bool false] 24 (0, 0)) from by rw [hW4, Below.heap_setCell _ _ _ _ (show w.heap.size + 1 + 1 ≠ w.heap.size by omega)]; exact (HK.out _ (by have := Q1.out; omega)).trans Q4.out)
  have P4 := Aside0.mk (show Kd.R k38 38 W4 w.heap.size (fun k => w.heap.size + 3 ≤ k ∧ k < W4.heap.size) (.slice B0 l0.length d0) l0 from by
    have e : W4.heap.size = w1.heap.size := by rw [hW4]; simp
    rw [e, hW4]
    exact Kd.R_far (Kd.R_mono (Kd.R_bound HO.out) (fun k hk => ⟨hk.1, hk.2.2.1⟩)) (fun k hk => by have := hk.1; simp; omega) _)
  have P5 := Aside0.mk (show Below w.heap.size w W4 from by rw [hW4]; exact HB1.out.setCell (Nat.le_refl _) _)
  clear hW4 HBK hx1 hf1 HO HB1 HK Q0 Q1 Q2 Q3 Q4
  have hx2 : (W4.alloc (.cells #[] 38)).cell? ⟨w.heap.size, 2, none⟩ = some (.slice A1 l1.length c1) := ((below_alloc (Below.refl _ _) _).cell P1.out.lt).trans P1.out.c2
  go_upto_region 3 with ((with_reducible refine gate_builtin (b := .append) (xs := #[.tmp 12, .tmp 14]) rfl ?_); at_builtin; go_must (refine Kd.R_append_rows k38 (w0 := w) w.heap.size rfl (.tmp 12) (.tmp 14) 22 38 (.agg #[(.int .i64 0), (.int .i64 0), (.int .i64 0)]) 24 rfl Tryd.underlying22 info38 rfl (by decide) (by omega) _ [] l1 _ _ _ (fun k => W4.heap.size ≤ k) (fun _ => False) rfl rfl ?aO ?aR (fun _ _ h => h) (fun _ h => h.elim) ?aF ?aB ?aS ?aL ?_; (case aO => exact R_none W4 _ (by have := PS.out; omega)); (case aR => exact Kd.C_below H1.out (below_alloc P5.out _)); (case aF => exact fun k hk => by (simp at hk; omega)); (case aB => exact below_alloc P5.out _); (case aS => (have := PS.out; simp; omega)); (case aL => have := HL1.out; simp; omega); intro v1 w1 ho hb hg hat; rw [List.nil_append] at ho; obtain ⟨B1, d1, e0⟩ := Kd.R_slice ho; subst e0; have HO := Aside0.mk ho; have HB1 := Aside0.mk hb; have HR1 := Aside0.mk (Kd.R_grown (Kd.R_alloc P4.out _) hg (fun k hk => own_ne (by have := hk.2; omega))); have HK := Aside0.mk (show ∀ k, k < W4.heap.size → w1.heap[k]? = W4.heap[k]? from fun k hk => (hg.block k (by simp; omega) (own_ne (by omega))).trans ((below_alloc (Below.refl _ _) _).block k hk)); clear ho hb hg hat hx2; have HBK := Aside0.mk (show bookAt w1 w.heap.size t (.slice B0 l0.length d0) (.slice A1 l1.length c1) fl from (HK.out _ P1.out.lt).trans P1.out); have hx2 := HBK.out.c2; have hf2 : w1.frozen? ⟨w.heap.size, 2, none⟩ = false := frozen_of_row _ _ _ _ _ HBK.out))
  obtain ⟨W5, hW5⟩ : ∃ W5, W5 = w1.setCell ⟨w.heap.size, 2, none⟩ (.slice B1 l1.length d1) := ⟨_, rfl⟩
  rw [← hW5]
  have R1 := Aside0.mk (show bookAt W5 w.heap.size t (.slice B0 l0.length d0) (.slice B1 l1.length d1) fl from by rw [hW5]; exact blk_put (cs := #[.int .i64 t, .slice B0 l0.length d0, .slice A1 l1.length c1, .bool fl]) HBK.out 2 _ rfl)
  have R2 := Aside0.mk (show W5.heap[w.heap.size + 1]? = some (.cells #[.int .i64 0, .int .i64 b] 29 (0, 0)) from by rw [hW5, Below.heap_setCell _ _ _ _ (show w.heap.size + 1 ≠ w.heap.size by omega)]; exact (HK.out _ (by have := PS.out; omega)).trans P2.out)
  have R3 := Aside0.mk (show W5.heap[w.heap.size + 1 + 1]? = some (.cells #[.int .i64 0, .slice none 0 0, .slice none 0 0, .bool false] 24 (0, 0)) from by rw [hW5, Below.heap_setCell _ _ _ _ (show w.heap.size + 1 + 1 ≠ w.heap.size by omega)]; exact (HK.out _ (by have := PS.out; omega)).trans P3.out)
  have R4 := Aside0.mk (show Kd.R k38 38 W5 w.heap.size (fun k => w.heap.size + 3 ≤ k ∧ k < W4.heap.size) (.slice B0 l0.length d0) l0 from by
    rw [hW5]
    exact Kd.R_far HR1.out (fun k hk => by have := hk.1; simp; omega) _)
  have R5 := Aside0.mk (show Kd.R k38 38 W5 w.heap.size (fun k => W4.heap.size ≤ k) (.slice B1 l1.length d1) l1 from by
    rw [hW5]
    exact Kd.R_far HO.out (fun k hk => by have := PS.out; simp; omega) _)
  have R6 := Aside0.mk (show Below w.heap.size w W5 from by rw [hW5]; exact HB1.out.setCell (Nat.le_refl _) _)
  clear hW5 HBK hx2 hf2 HO HB1 HK HR1 P1 P2 P3 P4 P5
  have hy0 : W5.cell? ⟨w.heap.size + 1, 0, none⟩ = some (.int .i64 0) := by rw [cell_of_row _ _ _ _ _ _ R2.out]; rfl
  have hy1 : W5.cell? ⟨w.heap.size + 1, 1, none⟩ = some (.int .i64 b) := by rw [cell_of_row _ _ _ _ _ _ R2.out]; rfl
  obtain ⟨g, cg, eg, hg1, hg2, _⟩ := Kd.R_form R4.out (by have := HBI.out; omega)
  injection eg with eg1 eg2 eg3
  subst eg1 eg3
  have hE' : ∀ (args : Array Value) (w : World), Sem.run Tryd.prog (callFunc fid args) w = .ok (.enter fid args) w := hE
  go_wp2_with (go_at_call 55; refine (state_map_own W5 w.heap.size t g _ _ _ fl b R1.out HBI.out).mono ?_; rintro e W6 ⟨rfl, hB6⟩; have S1 := Aside0.mk (R1.out.below hB6 R1.out.lt); have S2 := Aside0.mk ((hB6.block _ (Array.getElem?_eq_some_iff.1 R3.out).1).trans R3.out); have S4 := Aside0.mk (Kd.R_below R4.out hB6); have S5 := Aside0.mk (Kd.R_below R5.out hB6); have S6 := Aside0.mk (below_step R6.out hB6); clear R1 R2 R3 R4 R5 R6 hB6 hy0 hy1)
  have hgo := S4.out.1 g rfl
  have hps := PS.out
  have hbi := HBI.out
  refine (HDO.out W6 w.heap.size g (b * 3) _ _ S1.out (taskAt_own S4.out b HBI.out) (by omega) (by omega) S6.out).mono ?_
  rintro e W7 ⟨rfl, q, hW7⟩
  have T1 := Aside0.mk (show bookAt W7 w.heap.size t _ _ fl' from by rw [hW7]; exact book_put4 S1.out s' fl' (by omega))
  have T2 := Aside0.mk (show W7.heap[w.heap.size + 1 + 1]? = some (.cells #[.int .i64 0, .slice none 0 0, .slice none 0 0, .bool false] 24 (0, 0)) from by
    rw [hW7]
    exact (put4_heap W6 g (b * 3) s' w.heap.size fl' _ (by omega) (by omega)).trans S2.out)
  have T4 := Aside0.mk (show Kd.R k38 38 W7 w.heap.size (fun k => w.heap.size + 3 ≤ k ∧ k < W4.heap.size) _ (l0.set b s') from by
    rw [hW7]
    exact Kd.R_drewN (R_put4 S4.out b hbi s' fl' (fun h => by have := h.1; omega)) q)
  have T5 := Aside0.mk (show Kd.R k38 38 W7 w.heap.size (fun k => W4.heap.size ≤ k) _ l1 from by
    rw [hW7]
    exact Kd.R_drewN (R_put4_far S5.out s' fl' (fun h => by have := hgo.2; omega) (fun h => by omega)) q)
  have T6 := Aside0.mk (show Below w.heap.size w W7 from by rw [hW7]; exact pw_below_drewN (below_put4 S6.out s' fl' (by omega) (Nat.le_refl _)) q)
  clear hW7 S1 S2 S4 S5 S6
  have hz0 := T1.out.c0
  have hz1 := T1.out.c1
  have hz2 := T1.out.c2
  have hz3 := T1.out.c3
  have hc0 : W7.cell? ⟨w.heap.size + 1 + 1, 0, none⟩ = some (.int .i64 0) := by rw [cell_of_row _ _ _ _ _ _ T2.out]; rfl
  have hc1 : W7.cell? ⟨w.heap.size + 1 + 1, 1, none⟩ = some (.slice none 0 0) := by rw [cell_of_row _ _ _ _ _ _ T2.out]; rfl
  have hc2 : W7.cell? ⟨w.heap.size + 1 + 1, 2, none⟩ = some (.slice none 0 0) := by rw [cell_of_row _ _ _ _ _ _ T2.out]; rfl
  have hc3 : W7.cell? ⟨w.heap.size + 1 + 1, 3, none⟩ = some (.bool false) := by rw [cell_of_row _ _ _ _ _ _ T2.out]; rfl
  have hf0 : W7.frozen? ⟨w.heap.size + 1 + 1, 0, none⟩ = false := frozen_of_row _ _ _ _ _ T2.out
  have hf1 : W7.frozen? ⟨w.heap.size + 1 + 1, 1, none⟩ = false := frozen_of_row _ _ _ _ _ T2.out
  have hf2 : W7.frozen? ⟨w.heap.size + 1 + 1, 2, none⟩ = false := frozen_of_row _ _ _ _ _ T2.out
  have hf3 : W7.frozen? ⟨w.heap.size + 1 + 1, 3, none⟩ = false := frozen_of_row _ _ _ _ _ T2.out
  clear hgo hps hbi
  go_wp2_with fail
  refine bodyPost_ret (results_cell_row rfl _ _ (w.heap.size + 1 + 1) 24 #[.int .i64 t, .slice (some ⟨g, 0, none⟩) l0.length d0, .slice B1 l1.length d1, .bool fl'] (0, 0) _ rfl (by refine blk_put (cs := #[.int .i64 t, .slice (some ⟨g, 0, none⟩) l0.length d0, .slice B1 l1.length d1, .bool false]) ?_ 3 _ rfl; refine blk_put (cs := #[.int .i64 t, .slice (some ⟨g, 0, none⟩) l0.length d0, .slice none 0 0, .bool false]) ?_ 2 _ rfl; refine blk_put (cs := #[.int .i64 t, .slice none 0 0, .slice none 0 0, .bool false]) ?_ 1 _ rfl; refine blk_put (cs := #[.int .i64 0, .slice none 0 0, .slice none 0 0, .bool false]) ?_ 0 _ rfl; exact T2.out) Tryd.underlying24 rfl (by kernel_rfl)) rfl ?_
  have hps := PS.out
  refine ⟨_, _, rfl, ?_, ?_, (((T6.out.setCell (by simp; omega) _).setCell (by simp; omega) _).setCell (by simp; omega) _).setCell (by simp; omega) _⟩
  · exact Kd.R_mono (Kd.R_far (p := ⟨w.heap.size + 1 + 1, 3, none⟩) (Kd.R_far (p := ⟨w.heap.size + 1 + 1, 2, none⟩) (Kd.R_far (p := ⟨w.heap.size + 1 + 1, 1, none⟩) (Kd.R_far (p := ⟨w.heap.size + 1 + 1, 0, none⟩) T4.out (fun k hk => by have := hk.1; simp; omega) _) (fun k hk => by have := hk.1; simp; omega) _) (fun k hk => by have := hk.1; simp; omega) _) (fun k hk => by have := hk.1; simp; omega) _) (fun k hk e => by have := T5.out.1 k e.symm; have := hk.2; omega)
  · exact Kd.R_mono (Kd.R_far (p := ⟨w.heap.size + 1 + 1, 3, none⟩) (Kd.R_far (p := ⟨w.heap.size + 1 + 1, 2, none⟩) (Kd.R_far (p := ⟨w.heap.size + 1 + 1, 1, none⟩) (Kd.R_far (p := ⟨w.heap.size + 1 + 1, 0, none⟩) T5.out (fun k hk => by simp; omega) _) (fun k hk => by simp; omega) _) (fun k hk => by simp; omega) _) (fun k hk => by simp; omega) _) (fun k hk e => by have := (T4.out.1 k e.symm).2; omega)

set_option maxHeartbeats 4000000 in
set_option maxRecDepth 100000 in
theorem changed_red (fid : Nat) (cap : Array Value) (hE : Enters Tryd.prog fid) (t : Int) (fl : Bool) (A0 : Option Addr) (c0 : Nat) (l0 : List S38) (A1 : Option Addr) (c1 : Nat) (l1 : List S38) (b : Nat) (s' : S38) (fl' : Bool) (w : World)
    (h0 : Kd.C k38 w A0 l0.length l0) (h1 : Kd.C k38 w A1 l1.length l1) (hl0 : l0.length ≤ 100000) (hl1 : l1.length ≤ 100000) (hb : b < l1.length)
    (hdo : ∀ (W : World) (gb gs off : Nat) (u0 u1 : Value), bookAt W gb t u0 u1 fl → taskAt W gs off (rd_T38 l1 (b : Int)) → gs ≠ gb → w.heap.size ≤ gs → Below w.heap.size w W →
      Calls Tryd.prog fid (#[.pointer (some ⟨gb, 0, none⟩), .pointer (some ⟨gs, off, none⟩)] ++ cap) W fun e w' => e = .returned (.tuple #[]) ∧ ∃ q, w' = (put4 W gs off s' gb fl').drewN q) :
    Calls Tryd.prog 56 #[.agg #[.int .i64 t, .slice A0 l0.length c0, .slice A1 l1.length c1, .bool fl], .agg #[.int .i64 1, .int .i64 b], .func (.func fid) #[] cap] w fun e w' =>
      ∃ v1 v2 : Value, e = .returned (.agg #[.int .i64 t, v1, v2, .bool fl']) ∧ Kd.R k38 38 w' w.heap.size (fun k => some k ≠ v2.ownBlock) v1 l0 ∧ Kd.R k38 38 w' w.heap.size (fun k => some k ≠ v1.ownBlock) v2 (l1.set b s') ∧ Below w.heap.size w w' := by
  have H0 := Aside0.mk h0
  have H1 := Aside0.mk h1
  have HL0 := Aside0.mk hl0
  have HL1 := Aside0.mk hl1
  have HBI := Aside0.mk hb
  have HDO := Aside0.mk hdo
  clear h0 h1 hl0 hl1 hb hdo
  have hu22 := Tryd.underlying22
  have hu29 := Tryd.underlying29
  have hu24 := Tryd.underlying24
  have hu38 := Tryd.underlying38
  have hw3 : ∃ W3, W3 = ((w.alloc (.cells #[.int .i64 t, .slice A0 l0.length c0, .slice A1 l1.length c1, .bool fl] 24)).alloc (.cells #[.int .i64 1, .int .i64 b] 29)).alloc (.cells #[.int .i64 0, .slice none 0 0, .slice none 0 0, .bool false] 24) := ⟨_, rfl⟩
  obtain ⟨W3, hW3⟩ := hw3
  have q0 : Below w.heap.size w W3 := by rw [hW3]; exact below_alloc (below_alloc (below_alloc (Below.refl _ _) _) _) _
  have q1 : W3.heap.size = w.heap.size + 3 := by rw [hW3]; simp
  have q2 : bookAt W3 w.heap.size t (.slice A0 l0.length c0) (.slice A1 l1.length c1) fl := by
    rw [hW3]
    have e1 := heap_alloc_new w (.cells #[.int .i64 t, .slice A0 l0.length c0, .slice A1 l1.length c1, .bool fl] 24)
    exact ((below_alloc (below_alloc (Below.refl _ _) _) _).block w.heap.size (by simp)).trans e1
  have q3 : W3.heap[w.heap.size + 1]? = some (.cells #[.int .i64 1, .int .i64 b] 29 (0, 0)) := by
    rw [hW3]
    have e1 := heap_alloc_new (w.alloc (.cells #[.int .i64 t, .slice A0 l0.length c0, .slice A1 l1.length c1, .bool fl] 24)) (.cells #[.int .i64 1, .int .i64 b] 29)
    rw [show (w.alloc (.cells #[.int .i64 t, .slice A0 l0.length c0, .slice A1 l1.length c1, .bool fl] 24)).heap.size = w.heap.size + 1 from by simp] at e1
    exact ((below_alloc (Below.refl _ _) _).block (w.heap.size + 1) (by simp)).trans e1
  have q4 : W3.heap[w.heap.size + 1 + 1]? = some (.cells #[.int .i64 0, .slice none 0 0, .slice none 0 0, .bool false] 24 (0, 0)) := by
    rw [hW3]
    have e1 := heap_alloc_new ((w.alloc (.cells #[.int .i64 t, .slice A0 l0.length c0, .slice A1 l1.length c1, .bool fl] 24)).alloc (.cells #[.int .i64 1, .int .i64 b] 29)) (.cells #[.int .i64 0, .slice none 0 0, .slice none 0 0, .bool false] 24)
    rw [show ((w.alloc (.cells #[.int .i64 t, .slice A0 l0.length c0, .slice A1 l1.length c1, .bool fl] 24)).alloc (.cells #[.int .i64 1, .int .i64 b] 29)).heap.size = w.heap.size + 1 + 1 from by simp] at e1
    exact e1
  have Q0 := Aside0.mk q0
  have Q1 := Aside0.mk q1
  have Q2 := Aside0.mk q2
  have Q3 := Aside0.mk q3
  have Q4 := Aside0.mk q4
  have HW3 := Aside0.mk hW3
  clear q0 q1 q2 q3 q4 hW3
  go_enter Tryd.func56, Tryd.ntmps56
  go_upto_region 1 with (fail)
  rw [← HW3.out]
  clear HW3
  have hx1 : (W3.alloc (.cells #[] 38)).cell? ⟨w.heap.size, 1, none⟩ = some (.slice A0 l0.length c0) := ((below_alloc (Below.refl _ _) _).cell Q2.out.lt).trans Q2.out.c1
  go_upto_region 2 with ((with_reducible refine gate_builtin (b := .append) (xs := #[.tmp 7, .tmp 9]) rfl ?_); at_builtin; go_must (refine Kd.R_append_rows k38 (w0 := w) w.heap.size rfl (.tmp 7) (.tmp 9) 22 38 (.agg #[(.int .i64 0), (.int .i64 0), (.int .i64 0)]) 24 rfl Tryd.underlying22 info38 rfl (by decide) (by omega) _ [] l0 _ _ _ (fun k => w.heap.size + 3 ≤ k) (fun _ => False) rfl rfl ?aO ?aR (fun _ _ h => h) (fun _ h => h.elim) ?aF ?aB ?aS ?aL ?_; (case aO => exact Kd.R_mono (R_none W3 _ (by have := Q1.out; omega)) (fun k hk => by have := Q1.out; omega)); (case aR => exact Kd.C_below H0.out (below_alloc Q0.out _)); (case aF => exact fun k hk => by (have := Q1.out; simp at hk; omega)); (case aB => exact below_alloc Q0.out _); (case aS => (have := Q1.out; simp; omega)); (case aL => have := HL0.out; simp; omega); intro v1 w1 ho hb hg hat; rw [List.nil_append] at ho; obtain ⟨B0, d0, e0⟩ := Kd.R_slice ho; subst e0; have HO := Aside0.mk ho; have HB1 := Aside0.mk hb; have HK := Aside0.mk (show ∀ k, k < W3.heap.size → w1.heap[k]? = W3.heap[k]? from fun k hk => (hg.block k (by simp; omega) (own_ne (by omega))).trans ((below_alloc (Below.refl _ _) _).block k hk)); clear ho hb hg hat hx1; have HBK := Aside0.mk (show bookAt w1 w.heap.size t (.slice A0 l0.length c0) (.slice A1 l1.length c1) fl from (HK.out _ (by have := Q1.out; omega)).trans Q2.out); have hx1 := HBK.out.c1; have hf1 : w1.frozen? ⟨w.heap.size, 1, none⟩ = false := frozen_of_row _ _ _ _ _ HBK.out))
  obtain ⟨W4, hW4⟩ : ∃ W4, W4 = w1.setCell ⟨w.heap.size, 1, none⟩ (.slice B0 l0.length d0) := ⟨_, rfl⟩
  rw [← hW4]
  have P1 := Aside0.mk (show bookAt W4 w.heap.size t (.slice B0 l0.length d0) (.slice A1 l1.length c1) fl from by rw [hW4]; exact blk_put (cs := #[.int .i64 t, .slice A0 l0.length c0, .slice A1 l1.length c1, .bool fl]) HBK.out 1 _ rfl)
  have PS := Aside0.mk (show w.heap.size + 3 ≤ W4.heap.size from by
    have h1 := HBK.out.lt
    have h2 := (Array.getElem?_eq_some_iff.1 ((HK.out (w.heap.size + 1 + 1) (by have := Q1.out; omega)).trans Q4.out)).1
    rw [hW4]
    simp
    omega)
  have P2 := Aside0.mk (show W4.heap[w.heap.size + 1]? = some (.cells #[.int .i64 1, .int .i64 b] 29 (0, 0)) from by rw [hW4, Below.heap_setCell _ _ _ _ (show w.heap.size + 1 ≠ w.heap.size by omega)]; exact (HK.out _ (by have := Q1.out; omega)).trans Q3.out)
  have P3 := Aside0.mk (show W4.heap[w.heap.size + 1 + 1]? = some (.cells #[.int .i64 0, .slice none 0 0, .slice none 0 0, .bool false] 24 (0, 0)) from by rw [hW4, Below.heap_setCell _ _ _ _ (show w.heap.size + 1 + 1 ≠ w.heap.size by omega)]; exact (HK.out _ (by have := Q1.out; omega)).trans Q4.out)
  have P4 := Aside0.mk (show Kd.R k38 38 W4 w.heap.size (fun k => w.heap.size + 3 ≤ k ∧ k < W4.heap.size) (.slice B0 l0.length d0) l0 from by
    have e : W4.heap.size = w1.heap.size := by rw [hW4]; simp
    rw [e, hW4]
    exact Kd.R_far (Kd.R_mono (Kd.R_bound HO.out) (fun k hk => ⟨hk.1, hk.2.2.1⟩)) (fun k hk => by have := hk.1; simp; omega) _)
  have P5 := Aside0.mk (show Below w.heap.size w W4 from by rw [hW4]; exact HB1.out.setCell (Nat.le_refl _) _)
  clear hW4 HBK hx1 hf1 HO HB1 HK Q0 Q1 Q2 Q3 Q4
  have hx2 : (W4.alloc (.cells #[] 38)).cell? ⟨w.heap.size, 2, none⟩ = some (.slice A1 l1.length c1) := ((below_alloc (Below.refl _ _) _).cell P1.out.lt).trans P1.out.c2
  go_upto_region 3 with ((with_reducible refine gate_builtin (b := .append) (xs := #[.tmp 12, .tmp 14]) rfl ?_); at_builtin; go_must (refine Kd.R_append_rows k38 (w0 := w) w.heap.size rfl (.tmp 12) (.tmp 14) 22 38 (.agg #[(.int .i64 0), (.int .i64 0), (.int .i64 0)]) 24 rfl Tryd.underlying22 info38 rfl (by decide) (by omega) _ [] l1 _ _ _ (fun k => W4.heap.size ≤ k) (fun _ => False) rfl rfl ?aO ?aR (fun _ _ h => h) (fun _ h => h.elim) ?aF ?aB ?aS ?aL ?_; (case aO => exact R_none W4 _ (by have := PS.out; omega)); (case aR => exact Kd.C_below H1.out (below_alloc P5.out _)); (case aF => exact fun k hk => by (simp at hk; omega)); (case aB => exact below_alloc P5.out _); (case aS => (have := PS.out; simp; omega)); (case aL => have := HL1.out; simp; omega); intro v1 w1 ho hb hg hat; rw [List.nil_append] at ho; obtain ⟨B1, d1, e0⟩ := Kd.R_slice ho; subst e0; have HO := Aside0.mk ho; have HB1 := Aside0.mk hb; have HR1 := Aside0.mk (Kd.R_grown (Kd.R_alloc P4.out _) hg (fun k hk => own_ne (by have := hk.2; omega))); have HK := Aside0.mk (show ∀ k, k < W4.heap.size → w1.heap[k]? = W4.heap[k]? from fun k hk => (hg.block k (by simp; omega) (own_ne (by omega))).trans ((below_alloc (Below.refl _ _) _).block k hk)); clear ho hb hg hat hx2; have HBK := Aside0.mk (show bookAt w1 w.heap.size t (.slice B0 l0.length d0) (.slice A1 l1.length c1) fl from (HK.out _ P1.out.lt).trans P1.out); have hx2 := HBK.out.c2; have hf2 : w1.frozen? ⟨w.heap.size, 2, none⟩ = false := frozen_of_row _ _ _ _ _ HBK.out))
  obtain ⟨W5, hW5⟩ : ∃ W5, W5 = w1.setCell ⟨w.heap.size, 2, none⟩ (.slice B1 l1.length d1) := ⟨_, rfl⟩
  rw [← hW5]
  have R1 := Aside0.mk (show bookAt W5 w.heap.size t (.slice B0 l0.length d0) (.slice B1 l1.length d1) fl from by rw [hW5]; exact blk_put (cs := #[.int .i64 t, .slice B0 l0.length d0, .slice A1 l1.length c1, .bool fl]) HBK.out 2 _ rfl)
  have R2 := Aside0.mk (show W5.heap[w.heap.size + 1]? = some (.cells #[.int .i64 1, .int .i64 b] 29 (0, 0)) from by rw [hW5, Below.heap_setCell _ _ _ _ (show w.heap.size + 1 ≠ w.heap.size by omega)]; exact (HK.out _ (by have := PS.out; omega)).trans P2.out)
  have R3 := Aside0.mk (show W5.heap[w.heap.size + 1 + 1]? = some (.cells #[.int .i64 0, .slice none 0 0, .slice none 0 0, .bool false] 24 (0, 0)) from by rw [hW5, Below.heap_setCell _ _ _ _ (show w.heap.size + 1 + 1 ≠ w.heap.size by omega)]; exact (HK.out _ (by have := PS.out; omega)).trans P3.out)
  have R4 := Aside0.mk (show Kd.R k38 38 W5 w.heap.size (fun k => w.heap.size + 3 ≤ k ∧ k < W4.heap.size) (.slice B0 l0.length d0) l0 from by
    rw [hW5]
    exact Kd.R_far HR1.out (fun k hk => by have := hk.1; simp; omega) _)
  have R5 := Aside0.mk (show Kd.R k38 38 W5 w.heap.size (fun k => W4.heap.size ≤ k) (.slice B1 l1.length d1) l1 from by
    rw [hW5]
    exact Kd.R_far HO.out (fun k hk => by have := PS.out; simp; omega) _)
  have R6 := Aside0.mk (show Below w.heap.size w W5 from by rw [hW5]; exact HB1.out.setCell (Nat.le_refl _) _)
  clear hW5 HBK hx2 hf2 HO HB1 HK HR1 P1 P2 P3 P4 P5
  have hy0 : W5.cell? ⟨w.heap.size + 1, 0, none⟩ = some (.int .i64 1) := by rw [cell_of_row _ _ _ _ _ _ R2.out]; rfl
  have hy1 : W5.cell? ⟨w.heap.size + 1, 1, none⟩ = some (.int .i64 b) := by rw [cell_of_row _ _ _ _ _ _ R2.out]; rfl
  obtain ⟨g, cg, eg, hg1, hg2, _⟩ := Kd.R_form R5.out (by have := HBI.out; omega)
  injection eg with eg1 eg2 eg3
  subst eg1 eg3
  have hE' : ∀ (args : Array Value) (w : World), Sem.run Tryd.prog (callFunc fid args) w = .ok (.enter fid args) w := hE
  go_wp2_with (go_at_call 55; refine (state_red_own W5 w.heap.size t g _ _ _ fl b R1.out HBI.out).mono ?_; rintro e W6 ⟨rfl, hB6⟩; have S1 := Aside0.mk (R1.out.below hB6 R1.out.lt); have S2 := Aside0.mk ((hB6.block _ (Array.getElem?_eq_some_iff.1 R3.out).1).trans R3.out); have S4 := Aside0.mk (Kd.R_below R4.out hB6); have S5 := Aside0.mk (Kd.R_below R5.out hB6); have S6 := Aside0.mk (below_step R6.out hB6); clear R1 R2 R3 R4 R5 R6 hB6 hy0 hy1)
  have hgo := S5.out.1 g rfl
  have hps := PS.out
  have hbi := HBI.out
  refine (HDO.out W6 w.heap.size g (b * 3) _ _ S1.out (taskAt_own S5.out b HBI.out) (by omega) (by omega) S6.out).mono ?_
  rintro e W7 ⟨rfl, q, hW7⟩
  have T1 := Aside0.mk (show bookAt W7 w.heap.size t _ _ fl' from by rw [hW7]; exact book_put4 S1.out s' fl' (by omega))
  have T2 := Aside0.mk (show W7.heap[w.heap.size + 1 + 1]? = some (.cells #[.int .i64 0, .slice none 0 0, .slice none 0 0, .bool false] 24 (0, 0)) from by
    rw [hW7]
    exact (put4_heap W6 g (b * 3) s' w.heap.size fl' _ (by omega) (by omega)).trans S2.out)
  have T4 := Aside0.mk (show Kd.R k38 38 W7 w.heap.size (fun k => w.heap.size + 3 ≤ k ∧ k < W4.heap.size) _ l0 from by
    rw [hW7]
    exact Kd.R_drewN (R_put4_far S4.out s' fl' (fun h => by have := h.2; omega) (fun h => by have := h.1; omega)) q)
  have T5 := Aside0.mk (show Kd.R k38 38 W7 w.heap.size (fun k => W4.heap.size ≤ k) _ (l1.set b s') from by
    rw [hW7]
    exact Kd.R_drewN (R_put4 S5.out b hbi s' fl' (fun h => by omega)) q)
  have T6 := Aside0.mk (show Below w.heap.size w W7 from by rw [hW7]; exact pw_below_drewN (below_put4 S6.out s' fl' (by omega) (Nat.le_refl _)) q)
  clear hW7 S1 S2 S4 S5 S6
  have hz0 := T1.out.c0
  have hz1 := T1.out.c1
  have hz2 := T1.out.c2
  have hz3 := T1.out.c3
  have hc0 : W7.cell? ⟨w.heap.size + 1 + 1, 0, none⟩ = some (.int .i64 0) := by rw [cell_of_row _ _ _ _ _ _ T2.out]; rfl
  have hc1 : W7.cell? ⟨w.heap.size + 1 + 1, 1, none⟩ = some (.slice none 0 0) := by rw [cell_of_row _ _ _ _ _ _ T2.out]; rfl
  have hc2 : W7.cell? ⟨w.heap.size + 1 + 1, 2, none⟩ = some (.slice none 0 0) := by rw [cell_of_row _ _ _ _ _ _ T2.out]; rfl
  have hc3 : W7.cell? ⟨w.heap.size + 1 + 1, 3, none⟩ = some (.bool false) := by rw [cell_of_row _ _ _ _ _ _ T2.out]; rfl
  have hf0 : W7.frozen? ⟨w.heap.size + 1 + 1, 0, none⟩ = false := frozen_of_row _ _ _ _ _ T2.out
  have hf1 : W7.frozen? ⟨w.heap.size + 1 + 1, 1, none⟩ = false := frozen_of_row _ _ _ _ _ T2.out
  have hf2 : W7.frozen? ⟨w.heap.size + 1 + 1, 2, none⟩ = false := frozen_of_row _ _ _ _ _ T2.out
  have hf3 : W7.frozen? ⟨w.heap.size + 1 + 1, 3, none⟩ = false := frozen_of_row _ _ _ _ _ T2.out
  clear hgo hps hbi
  go_wp2_with fail
  refine bodyPost_ret (results_cell_row rfl _ _ (w.heap.size + 1 + 1) 24 #[.int .i64 t, .slice B0 l0.length d0, .slice (some ⟨g, 0, none⟩) l1.length d1, .bool fl'] (0, 0) _ rfl (by refine blk_put (cs := #[.int .i64 t, .slice B0 l0.length d0, .slice (some ⟨g, 0, none⟩) l1.length d1, .bool false]) ?_ 3 _ rfl; refine blk_put (cs := #[.int .i64 t, .slice B0 l0.length d0, .slice none 0 0, .bool false]) ?_ 2 _ rfl; refine blk_put (cs := #[.int .i64 t, .slice none 0 0, .slice none 0 0, .bool false]) ?_ 1 _ rfl; refine blk_put (cs := #[.int .i64 0, .slice none 0 0, .slice none 0 0, .bool false]) ?_ 0 _ rfl; exact T2.out) Tryd.underlying24 rfl (by kernel_rfl)) rfl ?_
  have hps := PS.out
  refine ⟨_, _, rfl, ?_, ?_, (((T6.out.setCell (by simp; omega) _).setCell (by simp; omega) _).setCell (by simp; omega) _).setCell (by simp; omega) _⟩
  · exact Kd.R_mono (Kd.R_far (p := ⟨w.heap.size + 1 + 1, 3, none⟩) (Kd.R_far (p := ⟨w.heap.size + 1 + 1, 2, none⟩) (Kd.R_far (p := ⟨w.heap.size + 1 + 1, 1, none⟩) (Kd.R_far (p := ⟨w.heap.size + 1 + 1, 0, none⟩) T4.out (fun k hk => by have := hk.1; simp; omega) _) (fun k hk => by have := hk.1; simp; omega) _) (fun k hk => by have := hk.1; simp; omega) _) (fun k hk => by have := hk.1; simp; omega) _) (fun k hk e => by have := T5.out.1 k e.symm; have := hk.2; omega)
  · exact Kd.R_mono (Kd.R_far (p := ⟨w.heap.size + 1 + 1, 3, none⟩) (Kd.R_far (p := ⟨w.heap.size + 1 + 1, 2, none⟩) (Kd.R_far (p := ⟨w.heap.size + 1 + 1, 1, none⟩) (Kd.R_far (p := ⟨w.heap.size + 1 + 1, 0, none⟩) T5.out (fun k hk => by simp; omega) _) (fun k hk => by simp; omega) _) (fun k hk => by simp; omega) _) (fun k hk => by simp; omega) _) (fun k hk e => by have := (T4.out.1 k e.symm).2; omega)
end Go.Proofs.YtponmfnegdlppaaDoor.P

end
section
/- ledger.known, by hand (printed by HKnown.gen.py). -/
namespace Go.Proofs.YtponmfnegdlppaaDoor.P
open Go.RowKit Go.Proofs.YtponmfnegdlppaaDoorW.PrintWords Go.Proofs.YtponmfnegdlppaaDoorW.PrintLast Go.Proofs.YtponmfnegdlppaaDoorW.PrintMore
set_option linter.unusedVariables false
set_option linter.unusedSimpArgs false

def roomT (n0 n1 : Nat) (k : Int) : Int := if k = 0 then (n0 : Int) else if k = 1 then (n1 : Int) else 0
def okT (n0 n1 : Nat) (x : S29) : Bool := !(decide (x.f1 < 0)) && !(decide (roomT n0 n1 x.f0 ≤ x.f1))
def scanT (n0 n1 : Nat) : List S29 → Int
  | [] => 0
  | x :: l => if okT n0 n1 x = true then scanT n0 n1 l else 191
def knownP (t : Int) (l0 l1 : List S38) (fl : Bool) (ts : List S29) : Int := if checkP t l0 l1 fl = 0 then scanT l0.length l1.length ts else checkP t l0 l1 fl
theorem rd29 (l : List S29) (i : Nat) (h : i < l.length) : rd_T29 l (i : Int) = l[i] := by
  unfold rd_T29
  rw [Int.toNat_natCast, List.getD_eq_getElem?_getD, List.getElem?_eq_getElem h]
  rfl
theorem drop29 (l : List S29) (i : Nat) (h : i < l.length) : l.drop i = rd_T29 l (i : Int) :: l.drop (i + 1) := by
  rw [rd29 l i h]
  exact List.drop_eq_getElem_cons h

set_option maxHeartbeats 4000000 in
set_option maxRecDepth 100000 in
theorem known_any (t : Int) (fl : Bool) (A0 : Option Addr) (c0 : Nat) (l0 : List S38) (A1 : Option Addr) (c1 : Nat) (l1 : List S38) (A : Option Addr) (c : Nat) (ts : List S29) (w : World) (h0 : Kd.C k38 w A0 l0.length l0) (h1 : Kd.C k38 w A1 l1.length l1) (hts : Kd.C k29 w A ts.length ts) (hl : ts.length ≤ 100) (hl0 : l0.length ≤ 6000000000000) (hl1 : l1.length ≤ 6000000000000) (hT : Tab w) :
    Calls Tryd.prog 54 #[.agg #[.int .i64 t, .slice A0 l0.length c0, .slice A1 l1.length c1, .bool fl], .slice A ts.length c] w fun e w' => e = .returned (.int .i64 (knownP t l0 l1 fl ts)) ∧ Below w.heap.size w w' := by
  have hba := below_alloc (Below.refl w.heap.size w) (.cells #[.int .i64 t, .slice A0 l0.length c0, .slice A1 l1.length c1, .bool fl] 24)
  have hbk : bookAt (w.alloc (.cells #[.int .i64 t, .slice A0 l0.length c0, .slice A1 l1.length c1, .bool fl] 24)) w.heap.size t (.slice A0 l0.length c0) (.slice A1 l1.length c1) fl := heap_alloc_new w _
  have hcall := check_any t fl A0 c0 l0 A1 c1 l1 (w.alloc (.cells #[.int .i64 t, .slice A0 l0.length c0, .slice A1 l1.length c1, .bool fl] 24)) (Kd.C_below h0 hba) (Kd.C_below h1 hba) (hT.below hba)
  have HCA := Aside0.mk hcall
  have HBA := Aside0.mk hba
  have HBK := Aside0.mk hbk
  have HTS := Aside0.mk hts
  obtain ⟨r, hr⟩ : ∃ r, knownP t l0 l1 fl ts = r := ⟨_, rfl⟩
  rw [hr]
  have HR := Aside0.mk hr
  clear hcall hba hbk hts h0 h1 hT hr
  generalize hn0 : l0.length = n0 at *
  generalize hn1 : l1.length = n1 at *
  generalize hnt : ts.length = nt at *
  have HN0 := Aside0.mk hn0
  have HN1 := Aside0.mk hn1
  have HNT := Aside0.mk hnt
  clear hn0 hn1 hnt
  have hu22 := Tryd.underlying22
  have hu38 := Tryd.underlying38
  have hu24 := Tryd.underlying24
  have hu26 := Tryd.underlying26
  have hu29 := Tryd.underlying29
  have hz0 := HBK.out.c0
  have hz1 := HBK.out.c1
  have hz2 := HBK.out.c2
  have hz3 := HBK.out.c3
  by_cases hc : checkP t l0 l1 fl = 0
  · have hr := HR.out
    unfold knownP at hr
    rw [if_pos hc, HN0.out, HN1.out] at hr
    have hcall := HCA.out
    rw [hc] at hcall
    have HCA2 := Aside0.mk hcall
    have HR2 := Aside0.mk hr
    clear hr hcall hc HCA HR
    go_enter Tryd.func54, Tryd.ntmps54
    go_wp2_with (go_at_call 15; refine HCA2.out.mono ?_; rintro e W2 ⟨rfl, hB2⟩; have HB2 := Aside0.mk (HBK.out.below hB2 HBK.out.lt); have HA2 := Aside0.mk (below_step HBA.out hB2); clear hB2 HBK HBA hz0 hz1 hz2 hz3)
    clear HCA2
    go_loopw [16] (fun vi wr => ∃ i : Nat, i ≤ nt ∧ vi = .int .i64 i ∧ Aside0 (scanT n0 n1 (ts.drop i) = r) ∧ Aside0 (bookAt wr w.heap.size t (.slice A0 n0 c0) (.slice A1 n1 c1) fl) ∧ Aside0 (Below w.heap.size w wr)) (fun vi _ => nt - (intOf vi).toNat)
    case atStart => exact ⟨0, by omega, rfl, by rw [List.drop_zero]; exact HR2, HB2, HA2⟩
    case round =>
      clear HR2 HB2 HA2
      obtain ⟨i, hi, rfl, HR, HBK, HBA⟩ := hrel
      by_cases hlt : i < nt
      · have hd1 : decide ((i : Int) < (nt : Int)) = true := by simp; omega
        have hd2 : decide (i < nt) = true := by simp; omega
        have hr := HR.out
        have hil : i < ts.length := by have := HNT.out; omega
        rw [drop29 ts i hil] at hr
        obtain ⟨ad, e, hx0, hx1⟩ := at_T29 HTS.out (i : Int) (by omega) (by have := HNT.out; omega)
        subst e
        generalize rd_T29 ts (i : Int) = s at *
        rw [Int.toNat_natCast] at hx0 hx1
        replace hx0 := (HBA.out.cell (World.block_lt_of_cell? w _ hx0)).trans hx0
        replace hx1 := (HBA.out.cell (World.block_lt_of_cell? w _ hx1)).trans hx1
        have HS := Aside0.mk hr
        obtain ⟨k, b⟩ := s
        dsimp only at *
        have hbk := HBK.out
        have hba := HBA.out
        have hya := below_alloc (Below.refl wr.heap.size wr) (.cells #[.int .i64 k, .int .i64 b] 29)
        have HB2 := Aside0.mk (hbk.below hya hbk.lt)
        have HA2 := Aside0.mk (below_step hba hya)
        have hq1 := HB2.out.c1
        have hq2 := HB2.out.c2
        clear hr hya hbk hba HR
        by_cases g0 : k = 0
        · have e0 : (k == 0) = true := by simp; omega
          have hrm : roomT n0 n1 k = (n0 : Int) := by unfold roomT; rw [if_pos g0]
          by_cases b1 : b < 0
          · have d1 : decide (b < 0) = true := decide_eq_true b1
            have hr := HS.out
            have hg : okT n0 n1 ⟨k, b⟩ = false := by unfold okT; rw [hrm]; simp <;> omega
            rw [scanT, if_neg (by rw [hg]; decide)] at hr
            subst hr
            clear HS hg hrm g0
            go_wp2_with fail
            go_ret
            exact ⟨rfl, HA2.out⟩
          have d1 : decide (b < 0) = false := decide_eq_false b1
          by_cases b2 : (n0 : Int) ≤ b
          · have d2 : decide ((n0 : Int) ≤ b) = true := decide_eq_true b2
            have hr := HS.out
            have hg : okT n0 n1 ⟨k, b⟩ = false := by unfold okT; rw [hrm]; simp <;> omega
            rw [scanT, if_neg (by rw [hg]; decide)] at hr
            subst hr
            clear HS hg hrm g0
            go_wp2_with fail
            go_ret
            exact ⟨rfl, HA2.out⟩
          have d2 : decide ((n0 : Int) ≤ b) = false := decide_eq_false b2
          have hr := HS.out
          have hg : okT n0 n1 ⟨k, b⟩ = true := by unfold okT; rw [hrm]; simp <;> omega
          rw [scanT, if_pos hg] at hr
          have HR2 := Aside0.mk hr
          clear hr hg HS hrm b1 b2 g0
          go_wp2_with fail
          go_roundw
          case rel => exact ⟨i + 1, by omega, by go_num, HR2, HB2, HA2⟩
          case measure => simp [intOf]; omega
        · have e0 : (k == 0) = false := by simp; omega
          by_cases g1 : k = 1
          · have e1 : (k == 1) = true := by simp; omega
            have hrm : roomT n0 n1 k = (n1 : Int) := by unfold roomT; rw [if_neg g0, if_pos g1]
            by_cases b1 : b < 0
            · have d1 : decide (b < 0) = true := decide_eq_true b1
              have hr := HS.out
              have hg : okT n0 n1 ⟨k, b⟩ = false := by unfold okT; rw [hrm]; simp <;> omega
              rw [scanT, if_neg (by rw [hg]; decide)] at hr
              subst hr
              clear HS hg hrm g0 g1
              go_wp2_with fail
              go_ret
              exact ⟨rfl, HA2.out⟩
            have d1 : decide (b < 0) = false := decide_eq_false b1
            by_cases b2 : (n1 : Int) ≤ b
            · have d2 : decide ((n1 : Int) ≤ b) = true := decide_eq_true b2
              have hr := HS.out
              have hg : okT n0 n1 ⟨k, b⟩ = false := by unfold okT; rw [hrm]; simp <;> omega
              rw [scanT, if_neg (by rw [hg]; decide)] at hr
              subst hr
              clear HS hg hrm g0 g1
              go_wp2_with fail
              go_ret
              exact ⟨rfl, HA2.out⟩
            have d2 : decide ((n1 : Int) ≤ b) = false := decide_eq_false b2
            have hr := HS.out
            have hg : okT n0 n1 ⟨k, b⟩ = true := by unfold okT; rw [hrm]; simp <;> omega
            rw [scanT, if_pos hg] at hr
            have HR2 := Aside0.mk hr
            clear hr hg HS hrm b1 b2 g0 g1
            go_wp2_with fail
            go_roundw
            case rel => exact ⟨i + 1, by omega, by go_num, HR2, HB2, HA2⟩
            case measure => simp [intOf]; omega
          · have e1 : (k == 1) = false := by simp; omega
            have hrm : roomT n0 n1 k = 0 := by unfold roomT; rw [if_neg g0, if_neg g1]
            by_cases b1 : b < 0
            · have d1 : decide (b < 0) = true := decide_eq_true b1
              have hr := HS.out
              have hg : okT n0 n1 ⟨k, b⟩ = false := by unfold okT; rw [hrm]; simp <;> omega
              rw [scanT, if_neg (by rw [hg]; decide)] at hr
              subst hr
              clear HS hg hrm g0 g1
              go_wp2_with fail
              go_ret
              exact ⟨rfl, HA2.out⟩
            have d1 : decide (b < 0) = false := decide_eq_false b1
            by_cases b2 : 0 ≤ b
            · have d2 : decide (0 ≤ b) = true := decide_eq_true b2
              have hr := HS.out
              have hg : okT n0 n1 ⟨k, b⟩ = false := by unfold okT; rw [hrm]; simp <;> omega
              rw [scanT, if_neg (by rw [hg]; decide)] at hr
              subst hr
              clear HS hg hrm g0 g1
              go_wp2_with fail
              go_ret
              exact ⟨rfl, HA2.out⟩
            have d2 : decide (0 ≤ b) = false := decide_eq_false b2
            have hr := HS.out
            have hg : okT n0 n1 ⟨k, b⟩ = true := by unfold okT; rw [hrm]; simp <;> omega
            rw [scanT, if_pos hg] at hr
            have HR2 := Aside0.mk hr
            clear hr hg HS hrm b1 b2 g0 g1
            go_wp2_with fail
            go_roundw
            case rel => exact ⟨i + 1, by omega, by go_num, HR2, HB2, HA2⟩
            case measure => simp [intOf]; omega
      · obtain rfl : i = nt := by omega
        have hd1 : decide ((i : Int) < (i : Int)) = false := by simp
        have hr := HR.out
        rw [List.drop_eq_nil_of_le (by have := HNT.out; omega)] at hr
        obtain rfl : (0 : Int) = r := hr
        clear HR
        go_wp2_with fail
        go_ret
        exact ⟨rfl, HBA.out⟩
  · have hr := HR.out
    unfold knownP at hr
    rw [if_neg hc] at hr
    have hcall := HCA.out
    rw [hr] at hcall
    have hne : (r != 0) = true := by rw [← hr]; exact bne_iff_ne.2 hc
    have HCA2 := Aside0.mk hcall
    clear hr hcall hc HCA HR
    go_enter Tryd.func54, Tryd.ntmps54
    go_wp2_with (go_at_call 15; refine HCA2.out.mono ?_; rintro e W2 ⟨rfl, hB2⟩; have HA2 := Aside0.mk (below_step HBA.out hB2); clear hB2 HBK HBA hz0 hz1 hz2 hz3)
    go_ret
    exact ⟨rfl, HA2.out⟩
end Go.Proofs.YtponmfnegdlppaaDoor.P

end
section
/- ledger.ended, by hand (printed by HEnded.gen.py). -/
namespace Go.Proofs.YtponmfnegdlppaaDoor.P
open Go.RowKit Go.Proofs.YtponmfnegdlppaaDoorW.PrintWords Go.Proofs.YtponmfnegdlppaaDoorW.PrintLast Go.Proofs.YtponmfnegdlppaaDoorW.PrintMore
set_option linter.unusedVariables false
set_option linter.unusedSimpArgs false

theorem C_one (W : World) (k b : Int) : Kd.C k29 (W.alloc (.cells #[.int .i64 k, .int .i64 b] 29)) (some ⟨W.heap.size, 0, none⟩) 1 [⟨k, b⟩] := by
  have h : Kd.R k29 29 (W.alloc (.cells #[.int .i64 k, .int .i64 b] 29)) W.heap.size (fun _ => True) (.slice (some ⟨W.heap.size, 0, none⟩) 1 1) [⟨k, b⟩] :=
    ⟨fun _ _ => trivial, [.int .i64 k, .int .i64 b], World.ownsRow_lit (base := W.heap.size) (e := 29) (size := k29.sz) W #[.int .i64 k, .int .i64 b] 1 (Nat.le_refl _) (by simp [maxLen]) (by rfl), Reps.c2 (k29_mkM _ _ _ ⟨k, b⟩) (Reps.none _ _)⟩
  exact (Kd.R_reads' h).2.2
/-- the three blocks that a call over a book and a task lays first -/
structure lays3 (w W3 : World) (t : Int) (u0 u1 : Value) (fl : Bool) (k b : Int) : Prop where
  q0 : Below w.heap.size w W3
  q1 : W3.heap.size = w.heap.size + 3
  q2 : bookAt W3 w.heap.size t u0 u1 fl
  q3 : W3.heap[w.heap.size + 1]? = some (.cells #[.int .i64 k, .int .i64 b] 29 (0, 0))
  q4 : W3.heap[w.heap.size + 1 + 1]? = some (.cells #[.int .i64 0, .slice none 0 0, .slice none 0 0, .bool false] 24 (0, 0))
def w3of (w : World) (t : Int) (u0 u1 : Value) (fl : Bool) (k b : Int) : World := ((w.alloc (.cells #[.int .i64 t, u0, u1, .bool fl] 24)).alloc (.cells #[.int .i64 k, .int .i64 b] 29)).alloc (.cells #[.int .i64 0, .slice none 0 0, .slice none 0 0, .bool false] 24)
theorem lays3_of (w : World) (t : Int) (u0 u1 : Value) (fl : Bool) (k b : Int) : lays3 w (w3of w t u0 u1 fl k b) t u0 u1 fl k b := by
  unfold w3of
  refine ⟨below_alloc (below_alloc (below_alloc (Below.refl _ _) _) _) _, by simp, ?_, ?_, ?_⟩
  · have e1 := heap_alloc_new w (.cells #[.int .i64 t, u0, u1, .bool fl] 24)
    exact ((below_alloc (below_alloc (Below.refl _ _) _) _).block w.heap.size (by simp)).trans e1
  · have e1 := heap_alloc_new (w.alloc (.cells #[.int .i64 t, u0, u1, .bool fl] 24)) (.cells #[.int .i64 k, .int .i64 b] 29)
    rw [show (w.alloc (.cells #[.int .i64 t, u0, u1, .bool fl] 24)).heap.size = w.heap.size + 1 from by simp] at e1
    exact ((below_alloc (Below.refl _ _) _).block (w.heap.size + 1) (by simp)).trans e1
  · have e1 := heap_alloc_new ((w.alloc (.cells #[.int .i64 t, u0, u1, .bool fl] 24)).alloc (.cells #[.int .i64 k, .int .i64 b] 29)) (.cells #[.int .i64 0, .slice none 0 0, .slice none 0 0, .bool false] 24)
    rw [show ((w.alloc (.cells #[.int .i64 t, u0, u1, .bool fl] 24)).alloc (.cells #[.int .i64 k, .int .i64 b] 29)).heap.size = w.heap.size + 1 + 1 from by simp] at e1
    exact e1
theorem lays3.below {w W3 W : World} {t : Int} {u0 u1 : Value} {fl : Bool} {k b : Int} (h : lays3 w W3 t u0 u1 fl k b) (hb : Below W3.heap.size W3 W) :
    bookAt W w.heap.size t u0 u1 fl ∧ W.heap[w.heap.size + 1]? = some (.cells #[.int .i64 k, .int .i64 b] 29 (0, 0)) ∧ W.heap[w.heap.size + 1 + 1]? = some (.cells #[.int .i64 0, .slice none 0 0, .slice none 0 0, .bool false] 24 (0, 0)) ∧ Below w.heap.size w W ∧ w.heap.size + 3 ≤ W.heap.size :=
  ⟨h.q2.below hb h.q2.lt, (hb.block _ (by have := h.q1; omega)).trans h.q3, (hb.block _ (by have := h.q1; omega)).trans h.q4, below_step h.q0 hb, by have := hb.size; have := h.q1; omega⟩

set_option maxHeartbeats 4000000 in
set_option maxRecDepth 100000 in
theorem ended_bad (fid : Nat) (cap : Array Value) (hE : Enters Tryd.prog fid) (t : Int) (fl : Bool) (A0 : Option Addr) (c0 : Nat) (l0 : List S38) (A1 : Option Addr) (c1 : Nat) (l1 : List S38) (k b : Int) (w : World)
    (h0 : Kd.C k38 w A0 l0.length l0) (h1 : Kd.C k38 w A1 l1.length l1) (hl0 : l0.length ≤ 6000000000000) (hl1 : l1.length ≤ 6000000000000) (hT : Tab w) (e : Int) (he : knownP t l0 l1 fl [⟨k, b⟩] = e) (hne : e ≠ 0) :
    Calls Tryd.prog 45 #[.agg #[.int .i64 t, .slice A0 l0.length c0, .slice A1 l1.length c1, .bool fl], .agg #[.int .i64 k, .int .i64 b], .func (.func fid) #[] cap] w fun e_ w' => e_ = .returned (.tuple #[.agg #[.int .i64 0, .slice none 0 0, .slice none 0 0, .bool false], .int .i64 e]) ∧ Below w.heap.size w w' := by
  have hl3 := lays3_of w t (.slice A0 l0.length c0) (.slice A1 l1.length c1) fl k b
  have hba : Below w.heap.size w ((w3of w t (.slice A0 l0.length c0) (.slice A1 l1.length c1) fl k b).alloc (.cells #[.int .i64 k, .int .i64 b] 29)) := below_alloc hl3.q0 _
  have hkn := known_any t fl A0 c0 l0 A1 c1 l1 (some ⟨(w3of w t (.slice A0 l0.length c0) (.slice A1 l1.length c1) fl k b).heap.size, 0, none⟩) 1 [⟨k, b⟩] ((w3of w t (.slice A0 l0.length c0) (.slice A1 l1.length c1) fl k b).alloc (.cells #[.int .i64 k, .int .i64 b] 29)) (Kd.C_below h0 hba) (Kd.C_below h1 hba) (C_one (w3of w t (.slice A0 l0.length c0) (.slice A1 l1.length c1) fl k b) k b) (by simp) hl0 hl1 (hT.below hba)
  rw [he] at hkn
  have H0 := Aside0.mk h0
  have H1 := Aside0.mk h1
  obtain ⟨W3, hW3⟩ : ∃ W3, (w3of w t (.slice A0 l0.length c0) (.slice A1 l1.length c1) fl k b) = W3 := ⟨_, rfl⟩
  rw [hW3] at hl3 hba hkn
  unfold w3of at hW3
  have HW3 := Aside0.mk hW3
  have HL := Aside0.mk hl3
  have HKN := Aside0.mk hkn
  have ha := below_alloc (Below.refl W3.heap.size W3) (.cells #[.int .i64 k, .int .i64 b] 29)
  have HBA := Aside0.mk ha
  clear hba hkn h0 h1 he hl3 hT hl0 hl1 ha hW3
  have hu22 := Tryd.underlying22
  have hu29 := Tryd.underlying29
  have hu24 := Tryd.underlying24
  have hu38 := Tryd.underlying38
  have hu26 := Tryd.underlying26
  have hz0 := HL.out.q2.c0
  have hz1 := HL.out.q2.c1
  have hz2 := HL.out.q2.c2
  have hz3 := HL.out.q2.c3
  have hy0 : W3.cell? ⟨w.heap.size + 1, 0, none⟩ = some (.int .i64 k) := (blk_cell HL.out.q3 0).trans rfl
  have hy1 : W3.cell? ⟨w.heap.size + 1, 1, none⟩ = some (.int .i64 b) := (blk_cell HL.out.q3 1).trans rfl
  go_enter Tryd.func45, Tryd.ntmps45
  go_upto_region 1 with (fail)
  rw [HW3.out]
  clear HW3
  have hn1 : (e != 0) = true := bne_iff_ne.2 hne
  clear hne
  go_wp2_with (go_at_call 54; go_must (refine HKN.out.mono ?_; rintro e_ W4 ⟨rfl, hB4⟩; have HF := Aside0.mk (HL.out.below (below_step HBA.out hB4)); clear hB4 HL HKN HBA hz0 hz1 hz2 hz3 hy0 hy1; have hx3 := HF.out.1.c3; have hc0 : W4.cell? ⟨w.heap.size + 1 + 1, 0, none⟩ = some (.int .i64 0) := (blk_cell HF.out.2.2.1 0).trans rfl; have hc1 : W4.cell? ⟨w.heap.size + 1 + 1, 1, none⟩ = some (.slice none 0 0) := (blk_cell HF.out.2.2.1 1).trans rfl; have hc2 : W4.cell? ⟨w.heap.size + 1 + 1, 2, none⟩ = some (.slice none 0 0) := (blk_cell HF.out.2.2.1 2).trans rfl; have hc3 : W4.cell? ⟨w.heap.size + 1 + 1, 3, none⟩ = some (.bool false) := (blk_cell HF.out.2.2.1 3).trans rfl; have hf0 : W4.frozen? ⟨w.heap.size + 1 + 1, 0, none⟩ = false := frozen_of_row _ _ _ _ _ HF.out.2.2.1; have hf1 : W4.frozen? ⟨w.heap.size + 1 + 1, 1, none⟩ = false := frozen_of_row _ _ _ _ _ HF.out.2.2.1; have hf2 : W4.frozen? ⟨w.heap.size + 1 + 1, 2, none⟩ = false := frozen_of_row _ _ _ _ _ HF.out.2.2.1; have hf3 : W4.frozen? ⟨w.heap.size + 1 + 1, 3, none⟩ = false := frozen_of_row _ _ _ _ _ HF.out.2.2.1))
  refine bodyPost_ret (results_ct rfl _ _ (w.heap.size + 1 + 1) 24 #[.int .i64 0, .slice none 0 0, .slice none 0 0, .bool false] (0, 0) _ rfl (by refine blk_put (cs := #[.int .i64 0, .slice none 0 0, .slice none 0 0, .bool false]) ?_ 3 _ rfl; refine blk_put (cs := #[.int .i64 0, .slice none 0 0, .slice none 0 0, .bool false]) ?_ 2 _ rfl; refine blk_put (cs := #[.int .i64 0, .slice none 0 0, .slice none 0 0, .bool false]) ?_ 1 _ rfl; refine blk_put (cs := #[.int .i64 0, .slice none 0 0, .slice none 0 0, .bool false]) ?_ 0 _ rfl; exact HF.out.2.2.1) Tryd.underlying24 rfl (by kernel_rfl)) rfl ?_
  exact ⟨rfl, (((HF.out.2.2.2.1.setCell (by simp; omega) _).setCell (by simp; omega) _).setCell (by simp; omega) _).setCell (by simp; omega) _⟩

set_option maxHeartbeats 4000000 in
set_option maxRecDepth 100000 in
theorem ended_failed_map (fid : Nat) (cap : Array Value) (hE : Enters Tryd.prog fid) (t : Int) (fl : Bool) (A0 : Option Addr) (c0 : Nat) (l0 : List S38) (A1 : Option Addr) (c1 : Nat) (l1 : List S38) (b : Nat) (w : World)
    (h0 : Kd.C k38 w A0 l0.length l0) (h1 : Kd.C k38 w A1 l1.length l1) (hl0 : l0.length ≤ 6000000000000) (hl1 : l1.length ≤ 6000000000000) (hT : Tab w) (he : knownP t l0 l1 fl [⟨0, b⟩] = 0) (hfl : fl = true) :
    Calls Tryd.prog 45 #[.agg #[.int .i64 t, .slice A0 l0.length c0, .slice A1 l1.length c1, .bool fl], .agg #[.int .i64 0, .int .i64 b], .func (.func fid) #[] cap] w fun e_ w' => e_ = .returned (.tuple #[.agg #[.int .i64 0, .slice none 0 0, .slice none 0 0, .bool false], .int .i64 192]) ∧ Below w.heap.size w w' := by
  subst hfl
  have hl3 := lays3_of w t (.slice A0 l0.length c0) (.slice A1 l1.length c1) true 0 b
  have hba : Below w.heap.size w ((w3of w t (.slice A0 l0.length c0) (.slice A1 l1.length c1) true 0 b).alloc (.cells #[.int .i64 0, .int .i64 b] 29)) := below_alloc hl3.q0 _
  have hkn := known_any t true A0 c0 l0 A1 c1 l1 (some ⟨(w3of w t (.slice A0 l0.length c0) (.slice A1 l1.length c1) true 0 b).heap.size, 0, none⟩) 1 [⟨0, b⟩] ((w3of w t (.slice A0 l0.length c0) (.slice A1 l1.length c1) true 0 b).alloc (.cells #[.int .i64 0, .int .i64 b] 29)) (Kd.C_below h0 hba) (Kd.C_below h1 hba) (C_one (w3of w t (.slice A0 l0.length c0) (.slice A1 l1.length c1) true 0 b) 0 b) (by simp) hl0 hl1 (hT.below hba)
  rw [he] at hkn
  have H0 := Aside0.mk h0
  have H1 := Aside0.mk h1
  obtain ⟨W3, hW3⟩ : ∃ W3, (w3of w t (.slice A0 l0.length c0) (.slice A1 l1.length c1) true 0 b) = W3 := ⟨_, rfl⟩
  rw [hW3] at hl3 hba hkn
  unfold w3of at hW3
  have HW3 := Aside0.mk hW3
  have HL := Aside0.mk hl3
  have HKN := Aside0.mk hkn
  have ha := below_alloc (Below.refl W3.heap.size W3) (.cells #[.int .i64 0, .int .i64 b] 29)
  have HBA := Aside0.mk ha
  clear hba hkn h0 h1 he hl3 hT hl0 hl1 ha hW3
  have hu22 := Tryd.underlying22
  have hu29 := Tryd.underlying29
  have hu24 := Tryd.underlying24
  have hu38 := Tryd.underlying38
  have hu26 := Tryd.underlying26
  have hz0 := HL.out.q2.c0
  have hz1 := HL.out.q2.c1
  have hz2 := HL.out.q2.c2
  have hz3 := HL.out.q2.c3
  have hy0 : W3.cell? ⟨w.heap.size + 1, 0, none⟩ = some (.int .i64 0) := (blk_cell HL.out.q3 0).trans rfl
  have hy1 : W3.cell? ⟨w.heap.size + 1, 1, none⟩ = some (.int .i64 b) := (blk_cell HL.out.q3 1).trans rfl
  go_enter Tryd.func45, Tryd.ntmps45
  go_upto_region 1 with (fail)
  rw [HW3.out]
  clear HW3
  go_wp2_with (go_at_call 54; go_must (refine HKN.out.mono ?_; rintro e_ W4 ⟨rfl, hB4⟩; have HF := Aside0.mk (HL.out.below (below_step HBA.out hB4)); clear hB4 HL HKN HBA hz0 hz1 hz2 hz3 hy0 hy1; have hx3 := HF.out.1.c3; have hc0 : W4.cell? ⟨w.heap.size + 1 + 1, 0, none⟩ = some (.int .i64 0) := (blk_cell HF.out.2.2.1 0).trans rfl; have hc1 : W4.cell? ⟨w.heap.size + 1 + 1, 1, none⟩ = some (.slice none 0 0) := (blk_cell HF.out.2.2.1 1).trans rfl; have hc2 : W4.cell? ⟨w.heap.size + 1 + 1, 2, none⟩ = some (.slice none 0 0) := (blk_cell HF.out.2.2.1 2).trans rfl; have hc3 : W4.cell? ⟨w.heap.size + 1 + 1, 3, none⟩ = some (.bool false) := (blk_cell HF.out.2.2.1 3).trans rfl; have hf0 : W4.frozen? ⟨w.heap.size + 1 + 1, 0, none⟩ = false := frozen_of_row _ _ _ _ _ HF.out.2.2.1; have hf1 : W4.frozen? ⟨w.heap.size + 1 + 1, 1, none⟩ = false := frozen_of_row _ _ _ _ _ HF.out.2.2.1; have hf2 : W4.frozen? ⟨w.heap.size + 1 + 1, 2, none⟩ = false := frozen_of_row _ _ _ _ _ HF.out.2.2.1; have hf3 : W4.frozen? ⟨w.heap.size + 1 + 1, 3, none⟩ = false := frozen_of_row _ _ _ _ _ HF.out.2.2.1))
  refine bodyPost_ret (results_ct rfl _ _ (w.heap.size + 1 + 1) 24 #[.int .i64 0, .slice none 0 0, .slice none 0 0, .bool false] (0, 0) _ rfl (by refine blk_put (cs := #[.int .i64 0, .slice none 0 0, .slice none 0 0, .bool false]) ?_ 3 _ rfl; refine blk_put (cs := #[.int .i64 0, .slice none 0 0, .slice none 0 0, .bool false]) ?_ 2 _ rfl; refine blk_put (cs := #[.int .i64 0, .slice none 0 0, .slice none 0 0, .bool false]) ?_ 1 _ rfl; refine blk_put (cs := #[.int .i64 0, .slice none 0 0, .slice none 0 0, .bool false]) ?_ 0 _ rfl; exact HF.out.2.2.1) Tryd.underlying24 rfl (by kernel_rfl)) rfl ?_
  exact ⟨rfl, (((HF.out.2.2.2.1.setCell (by simp; omega) _).setCell (by simp; omega) _).setCell (by simp; omega) _).setCell (by simp; omega) _⟩

set_option maxHeartbeats 4000000 in
set_option maxRecDepth 100000 in
theorem ended_failed_red (fid : Nat) (cap : Array Value) (hE : Enters Tryd.prog fid) (t : Int) (fl : Bool) (A0 : Option Addr) (c0 : Nat) (l0 : List S38) (A1 : Option Addr) (c1 : Nat) (l1 : List S38) (b : Nat) (w : World)
    (h0 : Kd.C k38 w A0 l0.length l0) (h1 : Kd.C k38 w A1 l1.length l1) (hl0 : l0.length ≤ 6000000000000) (hl1 : l1.length ≤ 6000000000000) (hT : Tab w) (he : knownP t l0 l1 fl [⟨1, b⟩] = 0) (hfl : fl = true) :
    Calls Tryd.prog 45 #[.agg #[.int .i64 t, .slice A0 l0.length c0, .slice A1 l1.length c1, .bool fl], .agg #[.int .i64 1, .int .i64 b], .func (.func fid) #[] cap] w fun e_ w' => e_ = .returned (.tuple #[.agg #[.int .i64 0, .slice none 0 0, .slice none 0 0, .bool false], .int .i64 192]) ∧ Below w.heap.size w w' := by
  subst hfl
  have hl3 := lays3_of w t (.slice A0 l0.length c0) (.slice A1 l1.length c1) true 1 b
  have hba : Below w.heap.size w ((w3of w t (.slice A0 l0.length c0) (.slice A1 l1.length c1) true 1 b).alloc (.cells #[.int .i64 1, .int .i64 b] 29)) := below_alloc hl3.q0 _
  have hkn := known_any t true A0 c0 l0 A1 c1 l1 (some ⟨(w3of w t (.slice A0 l0.length c0) (.slice A1 l1.length c1) true 1 b).heap.size, 0, none⟩) 1 [⟨1, b⟩] ((w3of w t (.slice A0 l0.length c0) (.slice A1 l1.length c1) true 1 b).alloc (.cells #[.int .i64 1, .int .i64 b] 29)) (Kd.C_below h0 hba) (Kd.C_below h1 hba) (C_one (w3of w t (.slice A0 l0.length c0) (.slice A1 l1.length c1) true 1 b) 1 b) (by simp) hl0 hl1 (hT.below hba)
  rw [he] at hkn
  have H0 := Aside0.mk h0
  have H1 := Aside0.mk h1
  obtain ⟨W3, hW3⟩ : ∃ W3, (w3of w t (.slice A0 l0.length c0) (.slice A1 l1.length c1) true 1 b) = W3 := ⟨_, rfl⟩
  rw [hW3] at hl3 hba hkn
  unfold w3of at hW3
  have HW3 := Aside0.mk hW3
  have HL := Aside0.mk hl3
  have HKN := Aside0.mk hkn
  have ha := below_alloc (Below.refl W3.heap.size W3) (.cells #[.int .i64 1, .int .i64 b] 29)
  have HBA := Aside0.mk ha
  clear hba hkn h0 h1 he hl3 hT hl0 hl1 ha hW3
  have hu22 := Tryd.underlying22
  have hu29 := Tryd.underlying29
  have hu24 := Tryd.underlying24
  have hu38 := Tryd.underlying38
  have hu26 := Tryd.underlying26
  have hz0 := HL.out.q2.c0
  have hz1 := HL.out.q2.c1
  have hz2 := HL.out.q2.c2
  have hz3 := HL.out.q2.c3
  have hy0 : W3.cell? ⟨w.heap.size + 1, 0, none⟩ = some (.int .i64 1) := (blk_cell HL.out.q3 0).trans rfl
  have hy1 : W3.cell? ⟨w.heap.size + 1, 1, none⟩ = some (.int .i64 b) := (blk_cell HL.out.q3 1).trans rfl
  go_enter Tryd.func45, Tryd.ntmps45
  go_upto_region 1 with (fail)
  rw [HW3.out]
  clear HW3
  go_wp2_with (go_at_call 54; go_must (refine HKN.out.mono ?_; rintro e_ W4 ⟨rfl, hB4⟩; have HF := Aside0.mk (HL.out.below (below_step HBA.out hB4)); clear hB4 HL HKN HBA hz0 hz1 hz2 hz3 hy0 hy1; have hx3 := HF.out.1.c3; have hc0 : W4.cell? ⟨w.heap.size + 1 + 1, 0, none⟩ = some (.int .i64 0) := (blk_cell HF.out.2.2.1 0).trans rfl; have hc1 : W4.cell? ⟨w.heap.size + 1 + 1, 1, none⟩ = some (.slice none 0 0) := (blk_cell HF.out.2.2.1 1).trans rfl; have hc2 : W4.cell? ⟨w.heap.size + 1 + 1, 2, none⟩ = some (.slice none 0 0) := (blk_cell HF.out.2.2.1 2).trans rfl; have hc3 : W4.cell? ⟨w.heap.size + 1 + 1, 3, none⟩ = some (.bool false) := (blk_cell HF.out.2.2.1 3).trans rfl; have hf0 : W4.frozen? ⟨w.heap.size + 1 + 1, 0, none⟩ = false := frozen_of_row _ _ _ _ _ HF.out.2.2.1; have hf1 : W4.frozen? ⟨w.heap.size + 1 + 1, 1, none⟩ = false := frozen_of_row _ _ _ _ _ HF.out.2.2.1; have hf2 : W4.frozen? ⟨w.heap.size + 1 + 1, 2, none⟩ = false := frozen_of_row _ _ _ _ _ HF.out.2.2.1; have hf3 : W4.frozen? ⟨w.heap.size + 1 + 1, 3, none⟩ = false := frozen_of_row _ _ _ _ _ HF.out.2.2.1))
  refine bodyPost_ret (results_ct rfl _ _ (w.heap.size + 1 + 1) 24 #[.int .i64 0, .slice none 0 0, .slice none 0 0, .bool false] (0, 0) _ rfl (by refine blk_put (cs := #[.int .i64 0, .slice none 0 0, .slice none 0 0, .bool false]) ?_ 3 _ rfl; refine blk_put (cs := #[.int .i64 0, .slice none 0 0, .slice none 0 0, .bool false]) ?_ 2 _ rfl; refine blk_put (cs := #[.int .i64 0, .slice none 0 0, .slice none 0 0, .bool false]) ?_ 1 _ rfl; refine blk_put (cs := #[.int .i64 0, .slice none 0 0, .slice none 0 0, .bool false]) ?_ 0 _ rfl; exact HF.out.2.2.1) Tryd.underlying24 rfl (by kernel_rfl)) rfl ?_
  exact ⟨rfl, (((HF.out.2.2.2.1.setCell (by simp; omega) _).setCell (by simp; omega) _).setCell (by simp; omega) _).setCell (by simp; omega) _⟩

set_option maxHeartbeats 4000000 in
set_option maxRecDepth 100000 in
theorem ended_wait_map (fid : Nat) (cap : Array Value) (hE : Enters Tryd.prog fid) (t : Int) (fl : Bool) (A0 : Option Addr) (c0 : Nat) (l0 : List S38) (A1 : Option Addr) (c1 : Nat) (l1 : List S38) (b : Nat) (w : World)
    (h0 : Kd.C k38 w A0 l0.length l0) (h1 : Kd.C k38 w A1 l1.length l1) (hl0 : l0.length ≤ 6000000000000) (hl1 : l1.length ≤ 6000000000000) (hT : Tab w) (he : knownP t l0 l1 fl [⟨0, b⟩] = 0) (hfl : fl = false) (hb : b < l0.length) (hst : (rd_T38 l0 (b : Int)).f0 ≠ 1) :
    Calls Tryd.prog 45 #[.agg #[.int .i64 t, .slice A0 l0.length c0, .slice A1 l1.length c1, .bool fl], .agg #[.int .i64 0, .int .i64 b], .func (.func fid) #[] cap] w fun e_ w' => e_ = .returned (.tuple #[.agg #[.int .i64 0, .slice none 0 0, .slice none 0 0, .bool false], .int .i64 192]) ∧ Below w.heap.size w w' := by
  subst hfl
  have hl3 := lays3_of w t (.slice A0 l0.length c0) (.slice A1 l1.length c1) false 0 b
  have hba : Below w.heap.size w ((w3of w t (.slice A0 l0.length c0) (.slice A1 l1.length c1) false 0 b).alloc (.cells #[.int .i64 0, .int .i64 b] 29)) := below_alloc hl3.q0 _
  have hkn := known_any t false A0 c0 l0 A1 c1 l1 (some ⟨(w3of w t (.slice A0 l0.length c0) (.slice A1 l1.length c1) false 0 b).heap.size, 0, none⟩) 1 [⟨0, b⟩] ((w3of w t (.slice A0 l0.length c0) (.slice A1 l1.length c1) false 0 b).alloc (.cells #[.int .i64 0, .int .i64 b] 29)) (Kd.C_below h0 hba) (Kd.C_below h1 hba) (C_one (w3of w t (.slice A0 l0.length c0) (.slice A1 l1.length c1) false 0 b) 0 b) (by simp) hl0 hl1 (hT.below hba)
  rw [he] at hkn
  have H0 := Aside0.mk h0
  have H1 := Aside0.mk h1
  obtain ⟨W3, hW3⟩ : ∃ W3, (w3of w t (.slice A0 l0.length c0) (.slice A1 l1.length c1) false 0 b) = W3 := ⟨_, rfl⟩
  rw [hW3] at hl3 hba hkn
  unfold w3of at hW3
  have HW3 := Aside0.mk hW3
  have HL := Aside0.mk hl3
  have HKN := Aside0.mk hkn
  have ha := below_alloc (Below.refl W3.heap.size W3) (.cells #[.int .i64 0, .int .i64 b] 29)
  have HBA := Aside0.mk ha
  clear hba hkn h0 h1 he hl3 hT hl0 hl1 ha hW3
  have hu22 := Tryd.underlying22
  have hu29 := Tryd.underlying29
  have hu24 := Tryd.underlying24
  have hu38 := Tryd.underlying38
  have hu26 := Tryd.underlying26
  have hz0 := HL.out.q2.c0
  have hz1 := HL.out.q2.c1
  have hz2 := HL.out.q2.c2
  have hz3 := HL.out.q2.c3
  have hy0 : W3.cell? ⟨w.heap.size + 1, 0, none⟩ = some (.int .i64 0) := (blk_cell HL.out.q3 0).trans rfl
  have hy1 : W3.cell? ⟨w.heap.size + 1, 1, none⟩ = some (.int .i64 b) := (blk_cell HL.out.q3 1).trans rfl
  go_enter Tryd.func45, Tryd.ntmps45
  go_upto_region 1 with (fail)
  rw [HW3.out]
  clear HW3
  obtain ⟨ad, ea, hx0, _, _⟩ := at_T38 H0.out (b : Int) (by omega) (by omega)
  subst ea
  rw [Int.toNat_natCast] at hx0
  have HX0 := Aside0.mk hx0
  clear hx0
  generalize (rd_T38 l0 (b : Int)).f0 = st at hst HX0
  have hst1 : (st != 1) = true := bne_iff_ne.2 hst
  clear hst
  have HBI := Aside0.mk hb
  clear hb
  go_wp2_with (first | (go_at_call 54; go_must (refine HKN.out.mono ?_; rintro e_ W4 ⟨rfl, hB4⟩; have HF := Aside0.mk (HL.out.below (below_step HBA.out hB4)); clear hB4 HL HKN HBA hz0 hz1 hz2 hz3 hy0 hy1; have hx3 := HF.out.1.c3; have hv0 : W4.cell? ⟨w.heap.size + 1, 0, none⟩ = some (.int .i64 0) := (blk_cell HF.out.2.1 0).trans rfl; have hv1 : W4.cell? ⟨w.heap.size + 1, 1, none⟩ = some (.int .i64 b) := (blk_cell HF.out.2.1 1).trans rfl)) | (go_at_call 55; go_must (refine (state_map W4 w.heap.size t ad _ _ _ false b HF.out.1 (by omega) (by have := HBI.out; omega)).mono ?_; rintro e_ W5 ⟨rfl, hB5⟩; have HG := Aside0.mk (show bookAt W5 w.heap.size t _ _ false ∧ W5.heap[w.heap.size + 1]? = some (.cells #[.int .i64 0, .int .i64 b] 29 (0, 0)) ∧ W5.heap[w.heap.size + 1 + 1]? = some (.cells #[.int .i64 0, .slice none 0 0, .slice none 0 0, .bool false] 24 (0, 0)) ∧ Below w.heap.size w W5 ∧ w.heap.size + 3 ≤ W5.heap.size from ⟨HF.out.1.below hB5 HF.out.1.lt, (hB5.block _ (by have := HF.out.2.2.2.2; omega)).trans HF.out.2.1, (hB5.block _ (by have := HF.out.2.2.2.2; omega)).trans HF.out.2.2.1, below_step HF.out.2.2.2.1 hB5, by have := hB5.size; have := HF.out.2.2.2.2; omega⟩); clear hB5 HF hx3 hv0 hv1; have hx0 := (HG.out.2.2.2.1.cell (World.block_lt_of_cell? w _ HX0.out)).trans HX0.out; have hc0 : W5.cell? ⟨w.heap.size + 1 + 1, 0, none⟩ = some (.int .i64 0) := (blk_cell HG.out.2.2.1 0).trans rfl; have hc1 : W5.cell? ⟨w.heap.size + 1 + 1, 1, none⟩ = some (.slice none 0 0) := (blk_cell HG.out.2.2.1 1).trans rfl; have hc2 : W5.cell? ⟨w.heap.size + 1 + 1, 2, none⟩ = some (.slice none 0 0) := (blk_cell HG.out.2.2.1 2).trans rfl; have hc3 : W5.cell? ⟨w.heap.size + 1 + 1, 3, none⟩ = some (.bool false) := (blk_cell HG.out.2.2.1 3).trans rfl; have hf0 : W5.frozen? ⟨w.heap.size + 1 + 1, 0, none⟩ = false := frozen_of_row _ _ _ _ _ HG.out.2.2.1; have hf1 : W5.frozen? ⟨w.heap.size + 1 + 1, 1, none⟩ = false := frozen_of_row _ _ _ _ _ HG.out.2.2.1; have hf2 : W5.frozen? ⟨w.heap.size + 1 + 1, 2, none⟩ = false := frozen_of_row _ _ _ _ _ HG.out.2.2.1; have hf3 : W5.frozen? ⟨w.heap.size + 1 + 1, 3, none⟩ = false := frozen_of_row _ _ _ _ _ HG.out.2.2.1)))
  refine bodyPost_ret (results_ct rfl _ _ (w.heap.size + 1 + 1) 24 #[.int .i64 0, .slice none 0 0, .slice none 0 0, .bool false] (0, 0) _ rfl (by refine blk_put (cs := #[.int .i64 0, .slice none 0 0, .slice none 0 0, .bool false]) ?_ 3 _ rfl; refine blk_put (cs := #[.int .i64 0, .slice none 0 0, .slice none 0 0, .bool false]) ?_ 2 _ rfl; refine blk_put (cs := #[.int .i64 0, .slice none 0 0, .slice none 0 0, .bool false]) ?_ 1 _ rfl; refine blk_put (cs := #[.int .i64 0, .slice none 0 0, .slice none 0 0, .bool false]) ?_ 0 _ rfl; exact HG.out.2.2.1) Tryd.underlying24 rfl (by kernel_rfl)) rfl ?_
  exact ⟨rfl, (((HG.out.2.2.2.1.setCell (by simp; omega) _).setCell (by simp; omega) _).setCell (by simp; omega) _).setCell (by simp; omega) _⟩

set_option maxHeartbeats 4000000 in
set_option maxRecDepth 100000 in
theorem ended_wait_red (fid : Nat) (cap : Array Value) (hE : Enters Tryd.prog fid) (t : Int) (fl : Bool) (A0 : Option Addr) (c0 : Nat) (l0 : List S38) (A1 : Option Addr) (c1 : Nat) (l1 : List S38) (b : Nat) (w : World)
    (h0 : Kd.C k38 w A0 l0.length l0) (h1 : Kd.C k38 w A1 l1.length l1) (hl0 : l0.length ≤ 6000000000000) (hl1 : l1.length ≤ 6000000000000) (hT : Tab w) (he : knownP t l0 l1 fl [⟨1, b⟩] = 0) (hfl : fl = false) (hb : b < l1.length) (hst : (rd_T38 l1 (b : Int)).f0 ≠ 1) :
    Calls Tryd.prog 45 #[.agg #[.int .i64 t, .slice A0 l0.length c0, .slice A1 l1.length c1, .bool fl], .agg #[.int .i64 1, .int .i64 b], .func (.func fid) #[] cap] w fun e_ w' => e_ = .returned (.tuple #[.agg #[.int .i64 0, .slice none 0 0, .slice none 0 0, .bool false], .int .i64 192]) ∧ Below w.heap.size w w' := by
  subst hfl
  have hl3 := lays3_of w t (.slice A0 l0.length c0) (.slice A1 l1.length c1) false 1 b
  have hba : Below w.heap.size w ((w3of w t (.slice A0 l0.length c0) (.slice A1 l1.length c1) false 1 b).alloc (.cells #[.int .i64 1, .int .i64 b] 29)) := below_alloc hl3.q0 _
  have hkn := known_any t false A0 c0 l0 A1 c1 l1 (some ⟨(w3of w t (.slice A0 l0.length c0) (.slice A1 l1.length c1) false 1 b).heap.size, 0, none⟩) 1 [⟨1, b⟩] ((w3of w t (.slice A0 l0.length c0) (.slice A1 l1.length c1) false 1 b).alloc (.cells #[.int .i64 1, .int .i64 b] 29)) (Kd.C_below h0 hba) (Kd.C_below h1 hba) (C_one (w3of w t (.slice A0 l0.length c0) (.slice A1 l1.length c1) false 1 b) 1 b) (by simp) hl0 hl1 (hT.below hba)
  rw [he] at hkn
  have H0 := Aside0.mk h0
  have H1 := Aside0.mk h1
  obtain ⟨W3, hW3⟩ : ∃ W3, (w3of w t (.slice A0 l0.length c0) (.slice A1 l1.length c1) false 1 b) = W3 := ⟨_, rfl⟩
  rw [hW3] at hl3 hba hkn
  unfold w3of at hW3
  have HW3 := Aside0.mk hW3
  have HL := Aside0.mk hl3
  have HKN := Aside0.mk hkn
  have ha := below_alloc (Below.refl W3.heap.size W3) (.cells #[.int .i64 1, .int .i64 b] 29)
  have HBA := Aside0.mk ha
  clear hba hkn h0 h1 he hl3 hT hl0 hl1 ha hW3
  have hu22 := Tryd.underlying22
  have hu29 := Tryd.underlying29
  have hu24 := Tryd.underlying24
  have hu38 := Tryd.underlying38
  have hu26 := Tryd.underlying26
  have hz0 := HL.out.q2.c0
  have hz1 := HL.out.q2.c1
  have hz2 := HL.out.q2.c2
  have hz3 := HL.out.q2.c3
  have hy0 : W3.cell? ⟨w.heap.size + 1, 0, none⟩ = some (.int .i64 1) := (blk_cell HL.out.q3 0).trans rfl
  have hy1 : W3.cell? ⟨w.heap.size + 1, 1, none⟩ = some (.int .i64 b) := (blk_cell HL.out.q3 1).trans rfl
  go_enter Tryd.func45, Tryd.ntmps45
  go_upto_region 1 with (fail)
  rw [HW3.out]
  clear HW3
  obtain ⟨ad, ea, hx0, _, _⟩ := at_T38 H1.out (b : Int) (by omega) (by omega)
  subst ea
  rw [Int.toNat_natCast] at hx0
  have HX0 := Aside0.mk hx0
  clear hx0
  generalize (rd_T38 l1 (b : Int)).f0 = st at hst HX0
  have hst1 : (st != 1) = true := bne_iff_ne.2 hst
  clear hst
  have HBI := Aside0.mk hb
  clear hb
  go_wp2_with (first | (go_at_call 54; go_must (refine HKN.out.mono ?_; rintro e_ W4 ⟨rfl, hB4⟩; have HF := Aside0.mk (HL.out.below (below_step HBA.out hB4)); clear hB4 HL HKN HBA hz0 hz1 hz2 hz3 hy0 hy1; have hx3 := HF.out.1.c3; have hv0 : W4.cell? ⟨w.heap.size + 1, 0, none⟩ = some (.int .i64 1) := (blk_cell HF.out.2.1 0).trans rfl; have hv1 : W4.cell? ⟨w.heap.size + 1, 1, none⟩ = some (.int .i64 b) := (blk_cell HF.out.2.1 1).trans rfl)) | (go_at_call 55; go_must (refine (state_red W4 w.heap.size t ad _ _ _ false b HF.out.1 (by omega) (by have := HBI.out; omega)).mono ?_; rintro e_ W5 ⟨rfl, hB5⟩; have HG := Aside0.mk (show bookAt W5 w.heap.size t _ _ false ∧ W5.heap[w.heap.size + 1]? = some (.cells #[.int .i64 1, .int .i64 b] 29 (0, 0)) ∧ W5.heap[w.heap.size + 1 + 1]? = some (.cells #[.int .i64 0, .slice none 0 0, .slice none 0 0, .bool false] 24 (0, 0)) ∧ Below w.heap.size w W5 ∧ w.heap.size + 3 ≤ W5.heap.size from ⟨HF.out.1.below hB5 HF.out.1.lt, (hB5.block _ (by have := HF.out.2.2.2.2; omega)).trans HF.out.2.1, (hB5.block _ (by have := HF.out.2.2.2.2; omega)).trans HF.out.2.2.1, below_step HF.out.2.2.2.1 hB5, by have := hB5.size; have := HF.out.2.2.2.2; omega⟩); clear hB5 HF hx3 hv0 hv1; have hx0 := (HG.out.2.2.2.1.cell (World.block_lt_of_cell? w _ HX0.out)).trans HX0.out; have hc0 : W5.cell? ⟨w.heap.size + 1 + 1, 0, none⟩ = some (.int .i64 0) := (blk_cell HG.out.2.2.1 0).trans rfl; have hc1 : W5.cell? ⟨w.heap.size + 1 + 1, 1, none⟩ = some (.slice none 0 0) := (blk_cell HG.out.2.2.1 1).trans rfl; have hc2 : W5.cell? ⟨w.heap.size + 1 + 1, 2, none⟩ = some (.slice none 0 0) := (blk_cell HG.out.2.2.1 2).trans rfl; have hc3 : W5.cell? ⟨w.heap.size + 1 + 1, 3, none⟩ = some (.bool false) := (blk_cell HG.out.2.2.1 3).trans rfl; have hf0 : W5.frozen? ⟨w.heap.size + 1 + 1, 0, none⟩ = false := frozen_of_row _ _ _ _ _ HG.out.2.2.1; have hf1 : W5.frozen? ⟨w.heap.size + 1 + 1, 1, none⟩ = false := frozen_of_row _ _ _ _ _ HG.out.2.2.1; have hf2 : W5.frozen? ⟨w.heap.size + 1 + 1, 2, none⟩ = false := frozen_of_row _ _ _ _ _ HG.out.2.2.1; have hf3 : W5.frozen? ⟨w.heap.size + 1 + 1, 3, none⟩ = false := frozen_of_row _ _ _ _ _ HG.out.2.2.1)))
  refine bodyPost_ret (results_ct rfl _ _ (w.heap.size + 1 + 1) 24 #[.int .i64 0, .slice none 0 0, .slice none 0 0, .bool false] (0, 0) _ rfl (by refine blk_put (cs := #[.int .i64 0, .slice none 0 0, .slice none 0 0, .bool false]) ?_ 3 _ rfl; refine blk_put (cs := #[.int .i64 0, .slice none 0 0, .slice none 0 0, .bool false]) ?_ 2 _ rfl; refine blk_put (cs := #[.int .i64 0, .slice none 0 0, .slice none 0 0, .bool false]) ?_ 1 _ rfl; refine blk_put (cs := #[.int .i64 0, .slice none 0 0, .slice none 0 0, .bool false]) ?_ 0 _ rfl; exact HG.out.2.2.1) Tryd.underlying24 rfl (by kernel_rfl)) rfl ?_
  exact ⟨rfl, (((HG.out.2.2.2.1.setCell (by simp; omega) _).setCell (by simp; omega) _).setCell (by simp; omega) _).setCell (by simp; omega) _⟩

set_option maxHeartbeats 4000000 in
set_option maxRecDepth 100000 in
theorem ended_go_map (fid : Nat) (cap : Array Value) (hE : Enters Tryd.prog fid) (t : Int) (fl : Bool) (A0 : Option Addr) (c0 : Nat) (l0 : List S38) (A1 : Option Addr) (c1 : Nat) (l1 : List S38) (b : Nat) (w : World)
    (h0 : Kd.C k38 w A0 l0.length l0) (h1 : Kd.C k38 w A1 l1.length l1) (hl0 : l0.length ≤ 6000000000000) (hl1 : l1.length ≤ 6000000000000) (hT : Tab w) (he : knownP t l0 l1 fl [⟨0, b⟩] = 0) (hfl : fl = false) (hb : b < l0.length) (hst : (rd_T38 l0 (b : Int)).f0 = 1) (hl0' : l0.length ≤ 100000) (hl1' : l1.length ≤ 100000) (s' : S38) (fl' : Bool)
    (hdo : ∀ (W : World) (gb gs off : Nat) (u0 u1 : Value), bookAt W gb t u0 u1 fl → taskAt W gs off (rd_T38 l0 (b : Int)) → gs ≠ gb → w.heap.size ≤ gs → Below w.heap.size w W →
      Calls Tryd.prog fid (#[.pointer (some ⟨gb, 0, none⟩), .pointer (some ⟨gs, off, none⟩)] ++ cap) W fun e w' => e = .returned (.tuple #[]) ∧ ∃ q, w' = (put4 W gs off s' gb fl').drewN q) :
    Calls Tryd.prog 45 #[.agg #[.int .i64 t, .slice A0 l0.length c0, .slice A1 l1.length c1, .bool fl], .agg #[.int .i64 0, .int .i64 b], .func (.func fid) #[] cap] w fun e_ w' => ∃ v1 v2 : Value, e_ = .returned (.tuple #[.agg #[.int .i64 t, v1, v2, .bool fl'], .int .i64 0]) ∧ Kd.R k38 38 w' w.heap.size (fun k => some k ≠ v2.ownBlock) v1 (l0.set b s') ∧ Kd.R k38 38 w' w.heap.size (fun k => some k ≠ v1.ownBlock) v2 l1 ∧ Below w.heap.size w w' := by
  subst hfl
  have hl3 := lays3_of w t (.slice A0 l0.length c0) (.slice A1 l1.length c1) false 0 b
  have hba : Below w.heap.size w ((w3of w t (.slice A0 l0.length c0) (.slice A1 l1.length c1) false 0 b).alloc (.cells #[.int .i64 0, .int .i64 b] 29)) := below_alloc hl3.q0 _
  have hkn := known_any t false A0 c0 l0 A1 c1 l1 (some ⟨(w3of w t (.slice A0 l0.length c0) (.slice A1 l1.length c1) false 0 b).heap.size, 0, none⟩) 1 [⟨0, b⟩] ((w3of w t (.slice A0 l0.length c0) (.slice A1 l1.length c1) false 0 b).alloc (.cells #[.int .i64 0, .int .i64 b] 29)) (Kd.C_below h0 hba) (Kd.C_below h1 hba) (C_one (w3of w t (.slice A0 l0.length c0) (.slice A1 l1.length c1) false 0 b) 0 b) (by simp) hl0 hl1 (hT.below hba)
  rw [he] at hkn
  have H0 := Aside0.mk h0
  have H1 := Aside0.mk h1
  obtain ⟨W3, hW3⟩ : ∃ W3, (w3of w t (.slice A0 l0.length c0) (.slice A1 l1.length c1) false 0 b) = W3 := ⟨_, rfl⟩
  rw [hW3] at hl3 hba hkn
  unfold w3of at hW3
  have HW3 := Aside0.mk hW3
  have HL := Aside0.mk hl3
  have HKN := Aside0.mk hkn
  have ha := below_alloc (Below.refl W3.heap.size W3) (.cells #[.int .i64 0, .int .i64 b] 29)
  have HBA := Aside0.mk ha
  clear hba hkn h0 h1 he hl3 hT hl0 hl1 ha hW3
  have hu22 := Tryd.underlying22
  have hu29 := Tryd.underlying29
  have hu24 := Tryd.underlying24
  have hu38 := Tryd.underlying38
  have hu26 := Tryd.underlying26
  have hz0 := HL.out.q2.c0
  have hz1 := HL.out.q2.c1
  have hz2 := HL.out.q2.c2
  have hz3 := HL.out.q2.c3
  have hy0 : W3.cell? ⟨w.heap.size + 1, 0, none⟩ = some (.int .i64 0) := (blk_cell HL.out.q3 0).trans rfl
  have hy1 : W3.cell? ⟨w.heap.size + 1, 1, none⟩ = some (.int .i64 b) := (blk_cell HL.out.q3 1).trans rfl
  go_enter Tryd.func45, Tryd.ntmps45
  go_upto_region 1 with (fail)
  rw [HW3.out]
  clear HW3
  obtain ⟨ad, ea, hx0, _, _⟩ := at_T38 H0.out (b : Int) (by omega) (by omega)
  subst ea
  rw [Int.toNat_natCast] at hx0
  rw [hst] at hx0
  have HX0 := Aside0.mk hx0
  clear hx0 hst
  have HBI := Aside0.mk hb
  clear hb
  go_upto_region 6 with (first | (go_at_call 54; go_must (refine HKN.out.mono ?_; rintro e_ W4 ⟨rfl, hB4⟩; have HF := Aside0.mk (HL.out.below (below_step HBA.out hB4)); clear hB4 HL HKN HBA hz0 hz1 hz2 hz3 hy0 hy1; have hx3 := HF.out.1.c3; have hv0 : W4.cell? ⟨w.heap.size + 1, 0, none⟩ = some (.int .i64 0) := (blk_cell HF.out.2.1 0).trans rfl; have hv1 : W4.cell? ⟨w.heap.size + 1, 1, none⟩ = some (.int .i64 b) := (blk_cell HF.out.2.1 1).trans rfl)) | (go_at_call 55; go_must (refine (state_map W4 w.heap.size t ad _ _ _ false b HF.out.1 (by omega) (by have := HBI.out; omega)).mono ?_; rintro e_ W5 ⟨rfl, hB5⟩; have HG := Aside0.mk (show bookAt W5 w.heap.size t _ _ false ∧ W5.heap[w.heap.size + 1]? = some (.cells #[.int .i64 0, .int .i64 b] 29 (0, 0)) ∧ W5.heap[w.heap.size + 1 + 1]? = some (.cells #[.int .i64 0, .slice none 0 0, .slice none 0 0, .bool false] 24 (0, 0)) ∧ Below w.heap.size w W5 ∧ w.heap.size + 3 ≤ W5.heap.size from ⟨HF.out.1.below hB5 HF.out.1.lt, (hB5.block _ (by have := HF.out.2.2.2.2; omega)).trans HF.out.2.1, (hB5.block _ (by have := HF.out.2.2.2.2; omega)).trans HF.out.2.2.1, below_step HF.out.2.2.2.1 hB5, by have := hB5.size; have := HF.out.2.2.2.2; omega⟩); clear hB5 HF hx3 hv0 hv1; have hx0 := (HG.out.2.2.2.1.cell (World.block_lt_of_cell? w _ HX0.out)).trans HX0.out)))
  clear hx0
  have hz0 := HG.out.1.c0
  have hz1 := HG.out.1.c1
  have hz2 := HG.out.1.c2
  have hz3 := HG.out.1.c3
  have hy0 : W5.cell? ⟨w.heap.size + 1, 0, none⟩ = some (.int .i64 0) := (blk_cell HG.out.2.1 0).trans rfl
  have hy1 : W5.cell? ⟨w.heap.size + 1, 1, none⟩ = some (.int .i64 b) := (blk_cell HG.out.2.1 1).trans rfl
  have hch := changed_map fid cap hE t false (some ad) c0 l0 A1 c1 l1 b s' fl' W5 (Kd.C_below H0.out HG.out.2.2.2.1) (Kd.C_below H1.out HG.out.2.2.2.1) hl0' hl1' HBI.out
    (fun W gb gs off u0 u1 g1 g2 g3 g4 g5 => hdo W gb gs off u0 u1 g1 g2 g3 (Nat.le_trans (by have := HG.out.2.2.2.2; omega) g4) (below_step HG.out.2.2.2.1 g5))
  have HCH := Aside0.mk hch
  clear hch hdo
  go_wp2_with (go_at_call 56; go_must (refine HCH.out.mono ?_; rintro e_ W4 ⟨v1, v2, rfl, hr1, hr2, hB6⟩; have HR1 := Aside0.mk (Kd.R_mono (Kd.R_bound hr1) (fun k hk => (⟨hk.1, hk.2.1⟩ : _ ∧ W5.heap.size ≤ k))); have HR2 := Aside0.mk (Kd.R_mono (Kd.R_bound hr2) (fun k hk => (⟨hk.1, hk.2.1⟩ : _ ∧ W5.heap.size ≤ k))); have HB6 := Aside0.mk (below_step HG.out.2.2.2.1 hB6); have HZ := Aside0.mk (show W4.heap[w.heap.size + 1 + 1]? = some (.cells #[.int .i64 0, .slice none 0 0, .slice none 0 0, .bool false] 24 (0, 0)) from (hB6.block _ (by have := HG.out.2.2.2.2; omega)).trans HG.out.2.2.1); have HS := Aside0.mk HG.out.2.2.2.2; have HB5 := Aside0.mk (below_size HG.out.2.2.2.1); clear hr1 hr2 hB6 HCH HG hz0 hz1 hz2 hz3 hy0 hy1; obtain ⟨B1, d1, e1⟩ := Kd.R_slice HR1.out; subst e1; obtain ⟨B2, d2, e2⟩ := Kd.R_slice HR2.out; subst e2; (try simp only [List.length_set] at HR1 HR2); have hc0 : W4.cell? ⟨w.heap.size + 1 + 1, 0, none⟩ = some (.int .i64 0) := (blk_cell HZ.out 0).trans rfl; have hc1 : W4.cell? ⟨w.heap.size + 1 + 1, 1, none⟩ = some (.slice none 0 0) := (blk_cell HZ.out 1).trans rfl; have hc2 : W4.cell? ⟨w.heap.size + 1 + 1, 2, none⟩ = some (.slice none 0 0) := (blk_cell HZ.out 2).trans rfl; have hc3 : W4.cell? ⟨w.heap.size + 1 + 1, 3, none⟩ = some (.bool false) := (blk_cell HZ.out 3).trans rfl; have hf0 : W4.frozen? ⟨w.heap.size + 1 + 1, 0, none⟩ = false := frozen_of_row _ _ _ _ _ HZ.out; have hf1 : W4.frozen? ⟨w.heap.size + 1 + 1, 1, none⟩ = false := frozen_of_row _ _ _ _ _ HZ.out; have hf2 : W4.frozen? ⟨w.heap.size + 1 + 1, 2, none⟩ = false := frozen_of_row _ _ _ _ _ HZ.out; have hf3 : W4.frozen? ⟨w.heap.size + 1 + 1, 3, none⟩ = false := frozen_of_row _ _ _ _ _ HZ.out))
  refine bodyPost_ret (results_ct rfl _ _ (w.heap.size + 1 + 1) 24 #[.int .i64 t, .slice B1 l0.length d1, .slice B2 l1.length d2, .bool fl'] (0, 0) _ rfl (by refine blk_put (cs := #[.int .i64 t, .slice B1 l0.length d1, .slice B2 l1.length d2, .bool false]) ?_ 3 _ rfl; refine blk_put (cs := #[.int .i64 t, .slice B1 l0.length d1, .slice none 0 0, .bool false]) ?_ 2 _ rfl; refine blk_put (cs := #[.int .i64 t, .slice none 0 0, .slice none 0 0, .bool false]) ?_ 1 _ rfl; refine blk_put (cs := #[.int .i64 0, .slice none 0 0, .slice none 0 0, .bool false]) ?_ 0 _ rfl; exact HZ.out) Tryd.underlying24 rfl (by kernel_rfl)) rfl ?_
  have hs := HS.out
  refine ⟨_, _, rfl, ?_, ?_, (((HB6.out.setCell (by simp; omega) _).setCell (by simp; omega) _).setCell (by simp; omega) _).setCell (by simp; omega) _⟩
  · exact Kd.R_lower (Kd.R_mono (Kd.R_far (p := ⟨w.heap.size + 1 + 1, 3, none⟩) (Kd.R_far (p := ⟨w.heap.size + 1 + 1, 2, none⟩) (Kd.R_far (p := ⟨w.heap.size + 1 + 1, 1, none⟩) (Kd.R_far (p := ⟨w.heap.size + 1 + 1, 0, none⟩) HR1.out (fun k hk => by have := hk.2; simp; omega) _) (fun k hk => by have := hk.2; simp; omega) _) (fun k hk => by have := hk.2; simp; omega) _) (fun k hk => by have := hk.2; simp; omega) _) (fun k hk => hk.1)) HB5.out
  · exact Kd.R_lower (Kd.R_mono (Kd.R_far (p := ⟨w.heap.size + 1 + 1, 3, none⟩) (Kd.R_far (p := ⟨w.heap.size + 1 + 1, 2, none⟩) (Kd.R_far (p := ⟨w.heap.size + 1 + 1, 1, none⟩) (Kd.R_far (p := ⟨w.heap.size + 1 + 1, 0, none⟩) HR2.out (fun k hk => by have := hk.2; simp; omega) _) (fun k hk => by have := hk.2; simp; omega) _) (fun k hk => by have := hk.2; simp; omega) _) (fun k hk => by have := hk.2; simp; omega) _) (fun k hk => hk.1)) HB5.out

set_option maxHeartbeats 4000000 in
set_option maxRecDepth 100000 in
theorem ended_go_red (fid : Nat) (cap : Array Value) (hE : Enters Tryd.prog fid) (t : Int) (fl : Bool) (A0 : Option Addr) (c0 : Nat) (l0 : List S38) (A1 : Option Addr) (c1 : Nat) (l1 : List S38) (b : Nat) (w : World)
    (h0 : Kd.C k38 w A0 l0.length l0) (h1 : Kd.C k38 w A1 l1.length l1) (hl0 : l0.length ≤ 6000000000000) (hl1 : l1.length ≤ 6000000000000) (hT : Tab w) (he : knownP t l0 l1 fl [⟨1, b⟩] = 0) (hfl : fl = false) (hb : b < l1.length) (hst : (rd_T38 l1 (b : Int)).f0 = 1) (hl0' : l0.length ≤ 100000) (hl1' : l1.length ≤ 100000) (s' : S38) (fl' : Bool)
    (hdo : ∀ (W : World) (gb gs off : Nat) (u0 u1 : Value), bookAt W gb t u0 u1 fl → taskAt W gs off (rd_T38 l1 (b : Int)) → gs ≠ gb → w.heap.size ≤ gs → Below w.heap.size w W →
      Calls Tryd.prog fid (#[.pointer (some ⟨gb, 0, none⟩), .pointer (some ⟨gs, off, none⟩)] ++ cap) W fun e w' => e = .returned (.tuple #[]) ∧ ∃ q, w' = (put4 W gs off s' gb fl').drewN q) :
    Calls Tryd.prog 45 #[.agg #[.int .i64 t, .slice A0 l0.length c0, .slice A1 l1.length c1, .bool fl], .agg #[.int .i64 1, .int .i64 b], .func (.func fid) #[] cap] w fun e_ w' => ∃ v1 v2 : Value, e_ = .returned (.tuple #[.agg #[.int .i64 t, v1, v2, .bool fl'], .int .i64 0]) ∧ Kd.R k38 38 w' w.heap.size (fun k => some k ≠ v2.ownBlock) v1 l0 ∧ Kd.R k38 38 w' w.heap.size (fun k => some k ≠ v1.ownBlock) v2 (l1.set b s') ∧ Below w.heap.size w w' := by
  subst hfl
  have hl3 := lays3_of w t (.slice A0 l0.length c0) (.slice A1 l1.length c1) false 1 b
  have hba : Below w.heap.size w ((w3of w t (.slice A0 l0.length c0) (.slice A1 l1.length c1) false 1 b).alloc (.cells #[.int .i64 1, .int .i64 b] 29)) := below_alloc hl3.q0 _
  have hkn := known_any t false A0 c0 l0 A1 c1 l1 (some ⟨(w3of w t (.slice A0 l0.length c0) (.slice A1 l1.length c1) false 1 b).heap.size, 0, none⟩) 1 [⟨1, b⟩] ((w3of w t (.slice A0 l0.length c0) (.slice A1 l1.length c1) false 1 b).alloc (.cells #[.int .i64 1, .int .i64 b] 29)) (Kd.C_below h0 hba) (Kd.C_below h1 hba) (C_one (w3of w t (.slice A0 l0.length c0) (.slice A1 l1.length c1) false 1 b) 1 b) (by simp) hl0 hl1 (hT.below hba)
  rw [he] at hkn
  have H0 := Aside0.mk h0
  have H1 := Aside0.mk h1
  obtain ⟨W3, hW3⟩ : ∃ W3, (w3of w t (.slice A0 l0.length c0) (.slice A1 l1.length c1) false 1 b) = W3 := ⟨_, rfl⟩
  rw [hW3] at hl3 hba hkn
  unfold w3of at hW3
  have HW3 := Aside0.mk hW3
  have HL := Aside0.mk hl3
  have HKN := Aside0.mk hkn
  have ha := below_alloc (Below.refl W3.heap.size W3) (.cells #[.int .i64 1, .int .i64 b] 29)
  have HBA := Aside0.mk ha
  clear hba hkn h0 h1 he hl3 hT hl0 hl1 ha hW3
  have hu22 := Tryd.underlying22
  have hu29 := Tryd.underlying29
  have hu24 := Tryd.underlying24
  have hu38 := Tryd.underlying38
  have hu26 := Tryd.underlying26
  have hz0 := HL.out.q2.c0
  have hz1 := HL.out.q2.c1
  have hz2 := HL.out.q2.c2
  have hz3 := HL.out.q2.c3
  have hy0 : W3.cell? ⟨w.heap.size + 1, 0, none⟩ = some (.int .i64 1) := (blk_cell HL.out.q3 0).trans rfl
  have hy1 : W3.cell? ⟨w.heap.size + 1, 1, none⟩ = some (.int .i64 b) := (blk_cell HL.out.q3 1).trans rfl
  go_enter Tryd.func45, Tryd.ntmps45
  go_upto_region 1 with (fail)
  rw [HW3.out]
  clear HW3
  obtain ⟨ad, ea, hx0, _, _⟩ := at_T38 H1.out (b : Int) (by omega) (by omega)
  subst ea
  rw [Int.toNat_natCast] at hx0
  rw [hst] at hx0
  have HX0 := Aside0.mk hx0
  clear hx0 hst
  have HBI := Aside0.mk hb
  clear hb
  go_upto_region 6 with (first | (go_at_call 54; go_must (refine HKN.out.mono ?_; rintro e_ W4 ⟨rfl, hB4⟩; have HF := Aside0.mk (HL.out.below (below_step HBA.out hB4)); clear hB4 HL HKN HBA hz0 hz1 hz2 hz3 hy0 hy1; have hx3 := HF.out.1.c3; have hv0 : W4.cell? ⟨w.heap.size + 1, 0, none⟩ = some (.int .i64 1) := (blk_cell HF.out.2.1 0).trans rfl; have hv1 : W4.cell? ⟨w.heap.size + 1, 1, none⟩ = some (.int .i64 b) := (blk_cell HF.out.2.1 1).trans rfl)) | (go_at_call 55; go_must (refine (state_red W4 w.heap.size t ad _ _ _ false b HF.out.1 (by omega) (by have := HBI.out; omega)).mono ?_; rintro e_ W5 ⟨rfl, hB5⟩; have HG := Aside0.mk (show bookAt W5 w.heap.size t _ _ false ∧ W5.heap[w.heap.size + 1]? = some (.cells #[.int .i64 1, .int .i64 b] 29 (0, 0)) ∧ W5.heap[w.heap.size + 1 + 1]? = some (.cells #[.int .i64 0, .slice none 0 0, .slice none 0 0, .bool false] 24 (0, 0)) ∧ Below w.heap.size w W5 ∧ w.heap.size + 3 ≤ W5.heap.size from ⟨HF.out.1.below hB5 HF.out.1.lt, (hB5.block _ (by have := HF.out.2.2.2.2; omega)).trans HF.out.2.1, (hB5.block _ (by have := HF.out.2.2.2.2; omega)).trans HF.out.2.2.1, below_step HF.out.2.2.2.1 hB5, by have := hB5.size; have := HF.out.2.2.2.2; omega⟩); clear hB5 HF hx3 hv0 hv1; have hx0 := (HG.out.2.2.2.1.cell (World.block_lt_of_cell? w _ HX0.out)).trans HX0.out)))
  clear hx0
  have hz0 := HG.out.1.c0
  have hz1 := HG.out.1.c1
  have hz2 := HG.out.1.c2
  have hz3 := HG.out.1.c3
  have hy0 : W5.cell? ⟨w.heap.size + 1, 0, none⟩ = some (.int .i64 1) := (blk_cell HG.out.2.1 0).trans rfl
  have hy1 : W5.cell? ⟨w.heap.size + 1, 1, none⟩ = some (.int .i64 b) := (blk_cell HG.out.2.1 1).trans rfl
  have hch := changed_red fid cap hE t false A0 c0 l0 (some ad) c1 l1 b s' fl' W5 (Kd.C_below H0.out HG.out.2.2.2.1) (Kd.C_below H1.out HG.out.2.2.2.1) hl0' hl1' HBI.out
    (fun W gb gs off u0 u1 g1 g2 g3 g4 g5 => hdo W gb gs off u0 u1 g1 g2 g3 (Nat.le_trans (by have := HG.out.2.2.2.2; omega) g4) (below_step HG.out.2.2.2.1 g5))
  have HCH := Aside0.mk hch
  clear hch hdo
  go_wp2_with (go_at_call 56; go_must (refine HCH.out.mono ?_; rintro e_ W4 ⟨v1, v2, rfl, hr1, hr2, hB6⟩; have HR1 := Aside0.mk (Kd.R_mono (Kd.R_bound hr1) (fun k hk => (⟨hk.1, hk.2.1⟩ : _ ∧ W5.heap.size ≤ k))); have HR2 := Aside0.mk (Kd.R_mono (Kd.R_bound hr2) (fun k hk => (⟨hk.1, hk.2.1⟩ : _ ∧ W5.heap.size ≤ k))); have HB6 := Aside0.mk (below_step HG.out.2.2.2.1 hB6); have HZ := Aside0.mk (show W4.heap[w.heap.size + 1 + 1]? = some (.cells #[.int .i64 0, .slice none 0 0, .slice none 0 0, .bool false] 24 (0, 0)) from (hB6.block _ (by have := HG.out.2.2.2.2; omega)).trans HG.out.2.2.1); have HS := Aside0.mk HG.out.2.2.2.2; have HB5 := Aside0.mk (below_size HG.out.2.2.2.1); clear hr1 hr2 hB6 HCH HG hz0 hz1 hz2 hz3 hy0 hy1; obtain ⟨B1, d1, e1⟩ := Kd.R_slice HR1.out; subst e1; obtain ⟨B2, d2, e2⟩ := Kd.R_slice HR2.out; subst e2; (try simp only [List.length_set] at HR1 HR2); have hc0 : W4.cell? ⟨w.heap.size + 1 + 1, 0, none⟩ = some (.int .i64 0) := (blk_cell HZ.out 0).trans rfl; have hc1 : W4.cell? ⟨w.heap.size + 1 + 1, 1, none⟩ = some (.slice none 0 0) := (blk_cell HZ.out 1).trans rfl; have hc2 : W4.cell? ⟨w.heap.size + 1 + 1, 2, none⟩ = some (.slice none 0 0) := (blk_cell HZ.out 2).trans rfl; have hc3 : W4.cell? ⟨w.heap.size + 1 + 1, 3, none⟩ = some (.bool false) := (blk_cell HZ.out 3).trans rfl; have hf0 : W4.frozen? ⟨w.heap.size + 1 + 1, 0, none⟩ = false := frozen_of_row _ _ _ _ _ HZ.out; have hf1 : W4.frozen? ⟨w.heap.size + 1 + 1, 1, none⟩ = false := frozen_of_row _ _ _ _ _ HZ.out; have hf2 : W4.frozen? ⟨w.heap.size + 1 + 1, 2, none⟩ = false := frozen_of_row _ _ _ _ _ HZ.out; have hf3 : W4.frozen? ⟨w.heap.size + 1 + 1, 3, none⟩ = false := frozen_of_row _ _ _ _ _ HZ.out))
  refine bodyPost_ret (results_ct rfl _ _ (w.heap.size + 1 + 1) 24 #[.int .i64 t, .slice B1 l0.length d1, .slice B2 l1.length d2, .bool fl'] (0, 0) _ rfl (by refine blk_put (cs := #[.int .i64 t, .slice B1 l0.length d1, .slice B2 l1.length d2, .bool false]) ?_ 3 _ rfl; refine blk_put (cs := #[.int .i64 t, .slice B1 l0.length d1, .slice none 0 0, .bool false]) ?_ 2 _ rfl; refine blk_put (cs := #[.int .i64 t, .slice none 0 0, .slice none 0 0, .bool false]) ?_ 1 _ rfl; refine blk_put (cs := #[.int .i64 0, .slice none 0 0, .slice none 0 0, .bool false]) ?_ 0 _ rfl; exact HZ.out) Tryd.underlying24 rfl (by kernel_rfl)) rfl ?_
  have hs := HS.out
  refine ⟨_, _, rfl, ?_, ?_, (((HB6.out.setCell (by simp; omega) _).setCell (by simp; omega) _).setCell (by simp; omega) _).setCell (by simp; omega) _⟩
  · exact Kd.R_lower (Kd.R_mono (Kd.R_far (p := ⟨w.heap.size + 1 + 1, 3, none⟩) (Kd.R_far (p := ⟨w.heap.size + 1 + 1, 2, none⟩) (Kd.R_far (p := ⟨w.heap.size + 1 + 1, 1, none⟩) (Kd.R_far (p := ⟨w.heap.size + 1 + 1, 0, none⟩) HR1.out (fun k hk => by have := hk.2; simp; omega) _) (fun k hk => by have := hk.2; simp; omega) _) (fun k hk => by have := hk.2; simp; omega) _) (fun k hk => by have := hk.2; simp; omega) _) (fun k hk => hk.1)) HB5.out
  · exact Kd.R_lower (Kd.R_mono (Kd.R_far (p := ⟨w.heap.size + 1 + 1, 3, none⟩) (Kd.R_far (p := ⟨w.heap.size + 1 + 1, 2, none⟩) (Kd.R_far (p := ⟨w.heap.size + 1 + 1, 1, none⟩) (Kd.R_far (p := ⟨w.heap.size + 1 + 1, 0, none⟩) HR2.out (fun k hk => by have := hk.2; simp; omega) _) (fun k hk => by have := hk.2; simp; omega) _) (fun k hk => by have := hk.2; simp; omega) _) (fun k hk => by have := hk.2; simp; omega) _) (fun k hk => hk.1)) HB5.out
end Go.Proofs.YtponmfnegdlppaaDoor.P

end
section
/- ledger.ended in the print's form; ledger.Done, ledger.Died (printed by HDone.gen.py). -/
namespace Go.Proofs.YtponmfnegdlppaaDoor.P
open Go.RowKit Go.Proofs.YtponmfnegdlppaaDoorW.PrintWords Go.Proofs.YtponmfnegdlppaaDoorW.PrintLast Go.Proofs.YtponmfnegdlppaaDoorW.PrintMore
set_option linter.unusedVariables false
set_option linter.unusedSimpArgs false

theorem scan_good (t : Int) (held : Bool) : ∀ (l : List S38) (f g : Int), scanP t held l f = some g → ∀ s ∈ l, goodP t held s = true
  | [], f, g, h, s, hs => by cases hs
  | x :: l, f, g, h, s, hs => by
    rw [scanP] at h
    by_cases hg : goodP t held x = true
    · rw [if_pos hg] at h
      rcases List.mem_cons.1 hs with rfl | hs
      · exact hg
      · exact scan_good t held l _ g h s hs
    · rw [if_neg hg] at h
      cases h
/-- what a right book is -/
theorem check_ok {t : Int} {l0 l1 : List S38} {fl : Bool} (h : checkP t l0 l1 fl = 0) : 1 ≤ t ∧ t ≤ 16 ∧ l0.length ≤ 256 ∧ 1 ≤ l1.length ∧ l1.length ≤ 65535 ∧
    (∀ s ∈ l0, goodP t false s = true) ∧ (∀ s ∈ l1, goodP t true s = true) ∧ ∃ f g, scanP t false l0 0 = some f ∧ scanP t true l1 f = some g ∧ ¬ 1 < g ∧ fl = decide (g = 1) := by
  unfold checkP at h
  by_cases k1 : t < 1
  · rw [if_pos k1] at h; cases h
  rw [if_neg k1] at h
  by_cases k2 : 16 < t
  · rw [if_pos k2] at h; cases h
  rw [if_neg k2] at h
  by_cases k3 : 256 < l0.length
  · rw [if_pos k3] at h; cases h
  rw [if_neg k3] at h
  by_cases k4 : l1.length < 1
  · rw [if_pos k4] at h; cases h
  rw [if_neg k4] at h
  by_cases k5 : 65535 < l1.length
  · rw [if_pos k5] at h; cases h
  rw [if_neg k5] at h
  unfold scan0 at h
  cases h0 : scanP t false l0 0 with
  | none => rw [h0] at h; cases h
  | some f =>
    rw [h0] at h
    simp only [scan1] at h
    cases h1 : scanP t true l1 f with
    | none => rw [h1] at h; cases h
    | some g =>
      rw [h1] at h
      simp only [finP] at h
      by_cases h2 : 1 < g ∨ fl ≠ decide (g = 1)
      · rw [if_pos h2] at h; cases h
      · refine ⟨by omega, by omega, by omega, by omega, by omega, scan_good t false l0 _ _ h0, scan_good t true l1 _ _ h1, f, g, rfl, h1, fun h => h2 (.inl h), ?_⟩
        by_cases h3 : fl = decide (g = 1)
        · exact h3
        · exact absurd (.inr h3) h2
theorem known_zero {t : Int} {l0 l1 : List S38} {fl : Bool} {ts : List S29} (h : knownP t l0 l1 fl ts = 0) : checkP t l0 l1 fl = 0 ∧ scanT l0.length l1.length ts = 0 := by
  unfold knownP at h
  by_cases hc : checkP t l0 l1 fl = 0
  · rw [if_pos hc] at h; exact ⟨hc, h⟩
  · rw [if_neg hc] at h; exact absurd h hc
theorem okT_form {n0 n1 : Nat} {k b : Int} (h : okT n0 n1 ⟨k, b⟩ = true) : (k = 0 ∧ ∃ n : Nat, b = n ∧ n < n0) ∨ (k = 1 ∧ ∃ n : Nat, b = n ∧ n < n1) := by
  unfold okT roomT at h
  simp only [Bool.and_eq_true, Bool.not_eq_true', decide_eq_false_iff_not] at h
  obtain ⟨h1, h2⟩ := h
  by_cases g0 : k = 0
  · rw [if_pos g0] at h2
    exact .inl ⟨g0, b.toNat, by omega, by omega⟩
  rw [if_neg g0] at h2
  by_cases g1 : k = 1
  · rw [if_pos g1] at h2
    exact .inr ⟨g1, b.toNat, by omega, by omega⟩
  rw [if_neg g1] at h2
  omega
theorem known_one {t : Int} {l0 l1 : List S38} {fl : Bool} {k b : Int} (h : knownP t l0 l1 fl [⟨k, b⟩] = 0) : checkP t l0 l1 fl = 0 ∧ ((k = 0 ∧ ∃ n : Nat, b = n ∧ n < l0.length) ∨ (k = 1 ∧ ∃ n : Nat, b = n ∧ n < l1.length)) := by
  obtain ⟨h1, h2⟩ := known_zero h
  refine ⟨h1, ?_⟩
  simp only [scanT] at h2
  by_cases hk : okT l0.length l1.length ⟨k, b⟩ = true
  · exact okT_form hk
  · rw [if_neg hk] at h2; cases h2
theorem rd_mem {l : List S38} {n : Nat} (h : n < l.length) : rd_T38 l (n : Int) ∈ l := by
  rw [rd38 l n h]
  exact List.getElem_mem h
theorem good_charge {t : Int} {held : Bool} {s : S38} (ht : t ≤ 16) (h : goodP t held s = true) : 0 ≤ s.f2 ∧ s.f2 ≤ 1000 := by
  unfold goodP at h
  simp only [Bool.and_eq_true, Bool.not_eq_true', decide_eq_false_iff_not] at h
  obtain ⟨_, _, _, h4, h5, _⟩ := h
  omega
/-- a task's state -/
def stP (l0 l1 : List S38) (k b : Int) : S38 := if k = 0 then rd_T38 l0 b else rd_T38 l1 b
/-- a running attempt's end -/
def endP (t : Int) (l0 l1 : List S38) (fl : Bool) (k b : Int) (upd : S38 → S38) (uf : S38 → Bool) : Int × List S38 × List S38 × Bool × Int :=
  if knownP t l0 l1 fl [⟨k, b⟩] = 0 then
    if fl = true ∨ (stP l0 l1 k b).f0 ≠ 1 then (0, [], [], false, 192)
    else if k = 0 then (t, l0.set b.toNat (upd (stP l0 l1 k b)), l1, uf (stP l0 l1 k b), 0) else (t, l0, l1.set b.toNat (upd (stP l0 l1 k b)), uf (stP l0 l1 k b), 0)
  else (0, [], [], false, knownP t l0 l1 fl [⟨k, b⟩])

theorem ended_any (fid : Nat) (cap : Array Value) (hE : Enters Tryd.prog fid) (upd : S38 → S38) (uf : S38 → Bool) (t : Int) (fl : Bool) (A0 : Option Addr) (c0 : Nat) (l0 : List S38) (A1 : Option Addr) (c1 : Nat) (l1 : List S38) (k b : Int) (r1 : Int) (r2 r3 : List S38) (r4 : Bool) (r5 : Int) (w : World)
    (h0 : Kd.C k38 w A0 l0.length l0) (h1 : Kd.C k38 w A1 l1.length l1) (hl0 : l0.length ≤ 6000000000000) (hl1 : l1.length ≤ 6000000000000) (hT : Tab w)
    (hdo : ∀ (W : World) (gb gs off : Nat) (u0 u1 : Value) (s : S38), 0 ≤ s.f2 → s.f2 ≤ 1000 → bookAt W gb t u0 u1 false → taskAt W gs off s → gs ≠ gb → w.heap.size ≤ gs → Below w.heap.size w W →
      Calls Tryd.prog fid (#[.pointer (some ⟨gb, 0, none⟩), .pointer (some ⟨gs, off, none⟩)] ++ cap) W fun e w' => e = .returned (.tuple #[]) ∧ ∃ q, w' = (put4 W gs off (upd s) gb (uf s)).drewN q)
    (h : endP t l0 l1 fl k b upd uf = (r1, r2, r3, r4, r5)) :
    Calls Tryd.prog 45 #[.agg #[.int .i64 t, .slice A0 l0.length c0, .slice A1 l1.length c1, .bool fl], .agg #[.int .i64 k, .int .i64 b], .func (.func fid) #[] cap] w fun e_ w' =>
      ∃ v1 v2 : Value, e_ = .returned (.tuple #[.agg #[.int .i64 r1, v1, v2, .bool r4], .int .i64 r5]) ∧ Kd.R k38 38 w' w.heap.size (fun k => some k ≠ v2.ownBlock) v1 r2 ∧ Kd.R k38 38 w' w.heap.size (fun k => some k ≠ v1.ownBlock) v2 r3 ∧ Below w.heap.size w w' := by
  unfold endP at h
  by_cases hk : knownP t l0 l1 fl [⟨k, b⟩] = 0
  · rw [if_pos hk] at h
    obtain ⟨hc, hf⟩ := known_one hk
    obtain ⟨q1, q2, q3, q4, q5, q6, q7, _⟩ := check_ok hc
    rcases hf with ⟨rfl, n, rfl, hn⟩ | ⟨rfl, n, rfl, hn⟩
    · have hst : stP l0 l1 0 (n : Int) = rd_T38 l0 (n : Int) := by unfold stP; rw [if_pos rfl]
      rw [hst] at h
      by_cases hfl : fl = true
      · rw [if_pos (.inl hfl)] at h
        simp only [Prod.mk.injEq] at h
        obtain ⟨rfl, rfl, rfl, rfl, rfl⟩ := h
        refine (ended_failed_map fid cap hE t fl A0 c0 l0 A1 c1 l1 n w h0 h1 hl0 hl1 hT hk hfl).mono ?_
        rintro e w' ⟨rfl, hB⟩
        exact ⟨_, _, rfl, Kd.R_nil _ _ _ _ _, Kd.R_nil _ _ _ _ _, hB⟩
      · have hfl' : fl = false := by cases fl <;> simp_all
        by_cases hs : (rd_T38 l0 (n : Int)).f0 ≠ 1
        · rw [if_pos (.inr hs)] at h
          simp only [Prod.mk.injEq] at h
          obtain ⟨rfl, rfl, rfl, rfl, rfl⟩ := h
          refine (ended_wait_map fid cap hE t fl A0 c0 l0 A1 c1 l1 n w h0 h1 hl0 hl1 hT hk hfl' hn hs).mono ?_
          rintro e w' ⟨rfl, hB⟩
          exact ⟨_, _, rfl, Kd.R_nil _ _ _ _ _, Kd.R_nil _ _ _ _ _, hB⟩
        · rw [if_neg (by rintro (h | h); exact hfl h; exact hs h), if_pos rfl, Int.toNat_natCast] at h
          simp only [Prod.mk.injEq] at h
          obtain ⟨rfl, rfl, rfl, rfl, rfl⟩ := h
          have hgc := good_charge q2 (q6 _ (rd_mem hn))
          exact ended_go_map fid cap hE t fl A0 c0 l0 A1 c1 l1 n w h0 h1 hl0 hl1 hT hk hfl' hn (Classical.not_not.1 hs) (by omega) (by omega) _ _ (fun W gb gs off u0 u1 g1 g2 g3 g4 g5 => hdo W gb gs off u0 u1 _ hgc.1 hgc.2 (hfl' ▸ g1) g2 g3 g4 g5)
    · have hst : stP l0 l1 1 (n : Int) = rd_T38 l1 (n : Int) := by unfold stP; rw [if_neg (by decide)]
      rw [hst] at h
      by_cases hfl : fl = true
      · rw [if_pos (.inl hfl)] at h
        simp only [Prod.mk.injEq] at h
        obtain ⟨rfl, rfl, rfl, rfl, rfl⟩ := h
        refine (ended_failed_red fid cap hE t fl A0 c0 l0 A1 c1 l1 n w h0 h1 hl0 hl1 hT hk hfl).mono ?_
        rintro e w' ⟨rfl, hB⟩
        exact ⟨_, _, rfl, Kd.R_nil _ _ _ _ _, Kd.R_nil _ _ _ _ _, hB⟩
      · have hfl' : fl = false := by cases fl <;> simp_all
        by_cases hs : (rd_T38 l1 (n : Int)).f0 ≠ 1
        · rw [if_pos (.inr hs)] at h
          simp only [Prod.mk.injEq] at h
          obtain ⟨rfl, rfl, rfl, rfl, rfl⟩ := h
          refine (ended_wait_red fid cap hE t fl A0 c0 l0 A1 c1 l1 n w h0 h1 hl0 hl1 hT hk hfl' hn hs).mono ?_
          rintro e w' ⟨rfl, hB⟩
          exact ⟨_, _, rfl, Kd.R_nil _ _ _ _ _, Kd.R_nil _ _ _ _ _, hB⟩
        · rw [if_neg (by rintro (h | h); exact hfl h; exact hs h), if_neg (by decide), Int.toNat_natCast] at h
          simp only [Prod.mk.injEq] at h
          obtain ⟨rfl, rfl, rfl, rfl, rfl⟩ := h
          have hgc := good_charge q2 (q7 _ (rd_mem hn))
          exact ended_go_red fid cap hE t fl A0 c0 l0 A1 c1 l1 n w h0 h1 hl0 hl1 hT hk hfl' hn (Classical.not_not.1 hs) (by omega) (by omega) _ _ (fun W gb gs off u0 u1 g1 g2 g3 g4 g5 => hdo W gb gs off u0 u1 _ hgc.1 hgc.2 (hfl' ▸ g1) g2 g3 g4 g5)
  · rw [if_neg hk] at h
    simp only [Prod.mk.injEq] at h
    obtain ⟨rfl, rfl, rfl, rfl, rfl⟩ := h
    refine (ended_bad fid cap hE t fl A0 c0 l0 A1 c1 l1 k b w h0 h1 hl0 hl1 hT _ rfl hk).mono ?_
    rintro e w' ⟨rfl, hB⟩
    exact ⟨_, _, rfl, Kd.R_nil _ _ _ _ _, Kd.R_nil _ _ _ _ _, hB⟩

def doneP (t : Int) (l0 l1 : List S38) (fl : Bool) (k b : Int) : Int × List S38 × List S38 × Bool × Int := endP t l0 l1 fl k b (fun s => ⟨3, s.f1, s.f2⟩) (fun s => false)
set_option maxHeartbeats 4000000 in
set_option maxRecDepth 100000 in
theorem done_any (t : Int) (fl : Bool) (A0 : Option Addr) (c0 : Nat) (l0 : List S38) (A1 : Option Addr) (c1 : Nat) (l1 : List S38) (k b : Int) (r1 : Int) (r2 r3 : List S38) (r4 : Bool) (r5 : Int) (w : World)
    (h0 : Kd.C k38 w A0 l0.length l0) (h1 : Kd.C k38 w A1 l1.length l1) (hl0 : l0.length ≤ 6000000000000) (hl1 : l1.length ≤ 6000000000000) (hT : Tab w) (h : doneP t l0 l1 fl k b = (r1, r2, r3, r4, r5)) :
    Calls Tryd.prog 22 #[.agg #[.int .i64 t, .slice A0 l0.length c0, .slice A1 l1.length c1, .bool fl], .agg #[.int .i64 k, .int .i64 b]] w fun e_ w' =>
      ∃ v1 v2 : Value, e_ = .returned (.tuple #[.agg #[.int .i64 r1, v1, v2, .bool r4], .int .i64 r5]) ∧ Kd.R k38 38 w' w.heap.size (fun k => some k ≠ v2.ownBlock) v1 r2 ∧ Kd.R k38 38 w' w.heap.size (fun k => some k ≠ v1.ownBlock) v2 r3 ∧ Below w.heap.size w w' := by
  have hl3 := lays3_of w t (.slice A0 l0.length c0) (.slice A1 l1.length c1) fl k b
  obtain ⟨W3, hW3⟩ : ∃ W3, w3of w t (.slice A0 l0.length c0) (.slice A1 l1.length c1) fl k b = W3 := ⟨_, rfl⟩
  rw [hW3] at hl3
  unfold w3of at hW3
  have hen := ended_any 46 #[] (enters_of Tryd.func46 (by kernel_rfl) rfl) (fun s => ⟨3, s.f1, s.f2⟩) (fun s => false) t fl A0 c0 l0 A1 c1 l1 k b r1 r2 r3 r4 r5 W3 (Kd.C_below h0 hl3.q0) (Kd.C_below h1 hl3.q0) hl0 hl1 (hT.below hl3.q0)
    (fun W gb gs off u0 u1 s g1 g2 g3 g4 g5 g6 g7 => do_done W gb gs off t u0 u1 false s g3 g4 g5) h
  have HW3 := Aside0.mk hW3
  have HL := Aside0.mk hl3
  have HEN := Aside0.mk hen
  clear hW3 hl3 hen h0 h1 hl0 hl1 hT h
  have hu22 := Tryd.underlying22
  have hu29 := Tryd.underlying29
  have hu24 := Tryd.underlying24
  have hz0 := HL.out.q2.c0
  have hz1 := HL.out.q2.c1
  have hz2 := HL.out.q2.c2
  have hz3 := HL.out.q2.c3
  have hy0 : W3.cell? ⟨w.heap.size + 1, 0, none⟩ = some (.int .i64 k) := (blk_cell HL.out.q3 0).trans rfl
  have hy1 : W3.cell? ⟨w.heap.size + 1, 1, none⟩ = some (.int .i64 b) := (blk_cell HL.out.q3 1).trans rfl
  go_enter Tryd.func22, Tryd.ntmps22
  go_upto_region 1 with (fail)
  rw [HW3.out]
  clear HW3
  go_wp2_with (go_at_call 45; go_must (refine HEN.out.mono ?_; rintro e_ W4 ⟨v1, v2, rfl, hr1, hr2, hB6⟩; have HR1 := Aside0.mk (Kd.R_mono (Kd.R_bound hr1) (fun k hk => (⟨hk.1, hk.2.1⟩ : _ ∧ W3.heap.size ≤ k))); have HR2 := Aside0.mk (Kd.R_mono (Kd.R_bound hr2) (fun k hk => (⟨hk.1, hk.2.1⟩ : _ ∧ W3.heap.size ≤ k))); have HB6 := Aside0.mk (below_step HL.out.q0 hB6); have HZ := Aside0.mk (HL.out.below hB6).2.2.1; have HS := Aside0.mk HL.out.q1; have HB5 := Aside0.mk (below_size HL.out.q0); clear hr1 hr2 hB6 HEN HL hz0 hz1 hz2 hz3 hy0 hy1; obtain ⟨B1, d1, e1⟩ := Kd.R_slice HR1.out; subst e1; obtain ⟨B2, d2, e2⟩ := Kd.R_slice HR2.out; subst e2; have hc0 : W4.cell? ⟨w.heap.size + 1 + 1, 0, none⟩ = some (.int .i64 0) := (blk_cell HZ.out 0).trans rfl; have hc1 : W4.cell? ⟨w.heap.size + 1 + 1, 1, none⟩ = some (.slice none 0 0) := (blk_cell HZ.out 1).trans rfl; have hc2 : W4.cell? ⟨w.heap.size + 1 + 1, 2, none⟩ = some (.slice none 0 0) := (blk_cell HZ.out 2).trans rfl; have hc3 : W4.cell? ⟨w.heap.size + 1 + 1, 3, none⟩ = some (.bool false) := (blk_cell HZ.out 3).trans rfl; have hf0 : W4.frozen? ⟨w.heap.size + 1 + 1, 0, none⟩ = false := frozen_of_row _ _ _ _ _ HZ.out; have hf1 : W4.frozen? ⟨w.heap.size + 1 + 1, 1, none⟩ = false := frozen_of_row _ _ _ _ _ HZ.out; have hf2 : W4.frozen? ⟨w.heap.size + 1 + 1, 2, none⟩ = false := frozen_of_row _ _ _ _ _ HZ.out; have hf3 : W4.frozen? ⟨w.heap.size + 1 + 1, 3, none⟩ = false := frozen_of_row _ _ _ _ _ HZ.out))
  refine bodyPost_ret (results_ct rfl _ _ (w.heap.size + 1 + 1) 24 #[.int .i64 r1, .slice B1 r2.length d1, .slice B2 r3.length d2, .bool r4] (0, 0) _ rfl (by refine blk_put (cs := #[.int .i64 r1, .slice B1 r2.length d1, .slice B2 r3.length d2, .bool false]) ?_ 3 _ rfl; refine blk_put (cs := #[.int .i64 r1, .slice B1 r2.length d1, .slice none 0 0, .bool false]) ?_ 2 _ rfl; refine blk_put (cs := #[.int .i64 r1, .slice none 0 0, .slice none 0 0, .bool false]) ?_ 1 _ rfl; refine blk_put (cs := #[.int .i64 0, .slice none 0 0, .slice none 0 0, .bool false]) ?_ 0 _ rfl; exact HZ.out) Tryd.underlying24 rfl (by kernel_rfl)) rfl ?_
  have hs := HS.out
  refine ⟨_, _, rfl, ?_, ?_, (((HB6.out.setCell (by simp; omega) _).setCell (by simp; omega) _).setCell (by simp; omega) _).setCell (by simp; omega) _⟩
  · exact Kd.R_lower (Kd.R_mono (Kd.R_far (p := ⟨w.heap.size + 1 + 1, 3, none⟩) (Kd.R_far (p := ⟨w.heap.size + 1 + 1, 2, none⟩) (Kd.R_far (p := ⟨w.heap.size + 1 + 1, 1, none⟩) (Kd.R_far (p := ⟨w.heap.size + 1 + 1, 0, none⟩) HR1.out (fun k hk => by have := hk.2; simp; omega) _) (fun k hk => by have := hk.2; simp; omega) _) (fun k hk => by have := hk.2; simp; omega) _) (fun k hk => by have := hk.2; simp; omega) _) (fun k hk => hk.1)) HB5.out
  · exact Kd.R_lower (Kd.R_mono (Kd.R_far (p := ⟨w.heap.size + 1 + 1, 3, none⟩) (Kd.R_far (p := ⟨w.heap.size + 1 + 1, 2, none⟩) (Kd.R_far (p := ⟨w.heap.size + 1 + 1, 1, none⟩) (Kd.R_far (p := ⟨w.heap.size + 1 + 1, 0, none⟩) HR2.out (fun k hk => by have := hk.2; simp; omega) _) (fun k hk => by have := hk.2; simp; omega) _) (fun k hk => by have := hk.2; simp; omega) _) (fun k hk => by have := hk.2; simp; omega) _) (fun k hk => hk.1)) HB5.out

def diedP (t : Int) (l0 l1 : List S38) (fl : Bool) (k b : Int) : Int × List S38 × List S38 × Bool × Int := endP t l0 l1 fl k b (fun s => ⟨0, s.f1, s.f2 + 1⟩) (fun s => false || decide (s.f2 + 1 = t))
set_option maxHeartbeats 4000000 in
set_option maxRecDepth 100000 in
theorem died_any (t : Int) (fl : Bool) (A0 : Option Addr) (c0 : Nat) (l0 : List S38) (A1 : Option Addr) (c1 : Nat) (l1 : List S38) (k b : Int) (r1 : Int) (r2 r3 : List S38) (r4 : Bool) (r5 : Int) (w : World)
    (h0 : Kd.C k38 w A0 l0.length l0) (h1 : Kd.C k38 w A1 l1.length l1) (hl0 : l0.length ≤ 6000000000000) (hl1 : l1.length ≤ 6000000000000) (hT : Tab w) (h : diedP t l0 l1 fl k b = (r1, r2, r3, r4, r5)) :
    Calls Tryd.prog 24 #[.agg #[.int .i64 t, .slice A0 l0.length c0, .slice A1 l1.length c1, .bool fl], .agg #[.int .i64 k, .int .i64 b]] w fun e_ w' =>
      ∃ v1 v2 : Value, e_ = .returned (.tuple #[.agg #[.int .i64 r1, v1, v2, .bool r4], .int .i64 r5]) ∧ Kd.R k38 38 w' w.heap.size (fun k => some k ≠ v2.ownBlock) v1 r2 ∧ Kd.R k38 38 w' w.heap.size (fun k => some k ≠ v1.ownBlock) v2 r3 ∧ Below w.heap.size w w' := by
  have hl3 := lays3_of w t (.slice A0 l0.length c0) (.slice A1 l1.length c1) fl k b
  obtain ⟨W3, hW3⟩ : ∃ W3, w3of w t (.slice A0 l0.length c0) (.slice A1 l1.length c1) fl k b = W3 := ⟨_, rfl⟩
  rw [hW3] at hl3
  unfold w3of at hW3
  have hen := ended_any 50 #[] (enters_of Tryd.func50 (by kernel_rfl) rfl) (fun s => ⟨0, s.f1, s.f2 + 1⟩) (fun s => false || decide (s.f2 + 1 = t)) t fl A0 c0 l0 A1 c1 l1 k b r1 r2 r3 r4 r5 W3 (Kd.C_below h0 hl3.q0) (Kd.C_below h1 hl3.q0) hl0 hl1 (hT.below hl3.q0)
    (fun W gb gs off u0 u1 s g1 g2 g3 g4 g5 g6 g7 => do_charge W gb gs off t u0 u1 false s g3 g4 g5 g1 g2) h
  have HW3 := Aside0.mk hW3
  have HL := Aside0.mk hl3
  have HEN := Aside0.mk hen
  clear hW3 hl3 hen h0 h1 hl0 hl1 hT h
  have hu22 := Tryd.underlying22
  have hu29 := Tryd.underlying29
  have hu24 := Tryd.underlying24
  have hz0 := HL.out.q2.c0
  have hz1 := HL.out.q2.c1
  have hz2 := HL.out.q2.c2
  have hz3 := HL.out.q2.c3
  have hy0 : W3.cell? ⟨w.heap.size + 1, 0, none⟩ = some (.int .i64 k) := (blk_cell HL.out.q3 0).trans rfl
  have hy1 : W3.cell? ⟨w.heap.size + 1, 1, none⟩ = some (.int .i64 b) := (blk_cell HL.out.q3 1).trans rfl
  go_enter Tryd.func24, Tryd.ntmps24
  go_upto_region 1 with (fail)
  rw [HW3.out]
  clear HW3
  go_wp2_with (go_at_call 45; go_must (refine HEN.out.mono ?_; rintro e_ W4 ⟨v1, v2, rfl, hr1, hr2, hB6⟩; have HR1 := Aside0.mk (Kd.R_mono (Kd.R_bound hr1) (fun k hk => (⟨hk.1, hk.2.1⟩ : _ ∧ W3.heap.size ≤ k))); have HR2 := Aside0.mk (Kd.R_mono (Kd.R_bound hr2) (fun k hk => (⟨hk.1, hk.2.1⟩ : _ ∧ W3.heap.size ≤ k))); have HB6 := Aside0.mk (below_step HL.out.q0 hB6); have HZ := Aside0.mk (HL.out.below hB6).2.2.1; have HS := Aside0.mk HL.out.q1; have HB5 := Aside0.mk (below_size HL.out.q0); clear hr1 hr2 hB6 HEN HL hz0 hz1 hz2 hz3 hy0 hy1; obtain ⟨B1, d1, e1⟩ := Kd.R_slice HR1.out; subst e1; obtain ⟨B2, d2, e2⟩ := Kd.R_slice HR2.out; subst e2; have hc0 : W4.cell? ⟨w.heap.size + 1 + 1, 0, none⟩ = some (.int .i64 0) := (blk_cell HZ.out 0).trans rfl; have hc1 : W4.cell? ⟨w.heap.size + 1 + 1, 1, none⟩ = some (.slice none 0 0) := (blk_cell HZ.out 1).trans rfl; have hc2 : W4.cell? ⟨w.heap.size + 1 + 1, 2, none⟩ = some (.slice none 0 0) := (blk_cell HZ.out 2).trans rfl; have hc3 : W4.cell? ⟨w.heap.size + 1 + 1, 3, none⟩ = some (.bool false) := (blk_cell HZ.out 3).trans rfl; have hf0 : W4.frozen? ⟨w.heap.size + 1 + 1, 0, none⟩ = false := frozen_of_row _ _ _ _ _ HZ.out; have hf1 : W4.frozen? ⟨w.heap.size + 1 + 1, 1, none⟩ = false := frozen_of_row _ _ _ _ _ HZ.out; have hf2 : W4.frozen? ⟨w.heap.size + 1 + 1, 2, none⟩ = false := frozen_of_row _ _ _ _ _ HZ.out; have hf3 : W4.frozen? ⟨w.heap.size + 1 + 1, 3, none⟩ = false := frozen_of_row _ _ _ _ _ HZ.out))
  refine bodyPost_ret (results_ct rfl _ _ (w.heap.size + 1 + 1) 24 #[.int .i64 r1, .slice B1 r2.length d1, .slice B2 r3.length d2, .bool r4] (0, 0) _ rfl (by refine blk_put (cs := #[.int .i64 r1, .slice B1 r2.length d1, .slice B2 r3.length d2, .bool false]) ?_ 3 _ rfl; refine blk_put (cs := #[.int .i64 r1, .slice B1 r2.length d1, .slice none 0 0, .bool false]) ?_ 2 _ rfl; refine blk_put (cs := #[.int .i64 r1, .slice none 0 0, .slice none 0 0, .bool false]) ?_ 1 _ rfl; refine blk_put (cs := #[.int .i64 0, .slice none 0 0, .slice none 0 0, .bool false]) ?_ 0 _ rfl; exact HZ.out) Tryd.underlying24 rfl (by kernel_rfl)) rfl ?_
  have hs := HS.out
  refine ⟨_, _, rfl, ?_, ?_, (((HB6.out.setCell (by simp; omega) _).setCell (by simp; omega) _).setCell (by simp; omega) _).setCell (by simp; omega) _⟩
  · exact Kd.R_lower (Kd.R_mono (Kd.R_far (p := ⟨w.heap.size + 1 + 1, 3, none⟩) (Kd.R_far (p := ⟨w.heap.size + 1 + 1, 2, none⟩) (Kd.R_far (p := ⟨w.heap.size + 1 + 1, 1, none⟩) (Kd.R_far (p := ⟨w.heap.size + 1 + 1, 0, none⟩) HR1.out (fun k hk => by have := hk.2; simp; omega) _) (fun k hk => by have := hk.2; simp; omega) _) (fun k hk => by have := hk.2; simp; omega) _) (fun k hk => by have := hk.2; simp; omega) _) (fun k hk => hk.1)) HB5.out
  · exact Kd.R_lower (Kd.R_mono (Kd.R_far (p := ⟨w.heap.size + 1 + 1, 3, none⟩) (Kd.R_far (p := ⟨w.heap.size + 1 + 1, 2, none⟩) (Kd.R_far (p := ⟨w.heap.size + 1 + 1, 1, none⟩) (Kd.R_far (p := ⟨w.heap.size + 1 + 1, 0, none⟩) HR2.out (fun k hk => by have := hk.2; simp; omega) _) (fun k hk => by have := hk.2; simp; omega) _) (fun k hk => by have := hk.2; simp; omega) _) (fun k hk => by have := hk.2; simp; omega) _) (fun k hk => hk.1)) HB5.out
end Go.Proofs.YtponmfnegdlppaaDoor.P

end
