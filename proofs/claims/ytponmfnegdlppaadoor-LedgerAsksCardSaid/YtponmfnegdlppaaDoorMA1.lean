/- Several texts laid together (wip/tools/merge2.py): Open, Str, P0, Opens, HSpoil, HTab, HEnv, HRoomy, LedPlain, Pe38, Pf53, Pf27, Pf44, HGiven, HTurn, HApart, HFront, HAskW, HCheck. -/
import Derived.Test.YtponmfnegdlppaaDoorWWords
import Derived.Test.YtponmfnegdlppaaDoorRows
import Derived.Deep.Slices
import Derived.SizedLaws
import Derived.ProofKit
import Derived.Laws.Strings
import Derived.Laws.Small
import Derived.Test.YtponmfnegdlppaaDoorProg
import Derived.Below
import Derived.Deep.Draws
import Derived.Deep.AppendLies
import Derived.Maps.AppendAt
import Derived.OwnWalk
import Derived.Laws.BytesArg
import Derived.Laws.MakeOwn
import Derived.Laws.OwnMore
import Derived.Deep.OwnRows
import Derived.Tactics
import Derived.Lib.ConvBytes
import Derived.Laws.Slices
import Derived.WalkKit
import Derived.KernelRfl
import Derived.RowKit3
import Derived.Deep.LoopGhost
import Derived.Deep.QuietTactic
import Derived.BigQuiet
import Derived.WideLaws
import Derived.Deep.DeepCutAuto
import Derived.Deep.CutBlock
import Derived.Deep.RegionHeld3
import Derived.Laws.Rows
import Derived.Lib.AppendStr
import Derived.ArgAppend
import Derived.Laws.IdiomCopy
import Derived.OrdersHeld
import Derived.Laws.BitsLemmas
import Derived.RowKit
import Derived.Test.YtponmfnegdlppaaDoorWLast
import Derived.Test.YtponmfnegdlppaaDoorWTab
import Derived.Test.YtponmfnegdlppaaDoorWFour
import Derived.Test.YtponmfnegdlppaaDoorWQPut
import Derived.Test.YtponmfnegdlppaaDoorWApart
import Derived.Test.YtponmfnegdlppaaDoorWArr
import Derived.Test.YtponmfnegdlppaaDoorWZeros
import Derived.Test.YtponmfnegdlppaaDoorWFoot
import Derived.Test.YtponmfnegdlppaaDoorWKept
import Derived.Test.YtponmfnegdlppaaDoorWShare
import Derived.Test.YtponmfnegdlppaaDoorWN
import Derived.Test.YtponmfnegdlppaaDoorWFootNe
import Derived.Test.YtponmfnegdlppaaDoorWAt
import Derived.Test.YtponmfnegdlppaaDoorWEqStruct
import Derived.Test.YtponmfnegdlppaaDoorWRepsOne
import Derived.Test.YtponmfnegdlppaaDoorWInv
import Derived.Test.YtponmfnegdlppaaDoorWInvWords
import Derived.Test.YtponmfnegdlppaaDoorWGuard
import Derived.Test.YtponmfnegdlppaaDoorWNEv
import Derived.Test.YtponmfnegdlppaaDoorWMore
import Derived.Outline
import Derived.Lib.LaidTab
section
/- What comes in as data is read as a Lean value of its kind, whatever the kind: numbers, bools, strings, structs, slices of these. -/
set_option linter.unusedVariables false
namespace Go.Proofs.YtponmfnegdlppaaDoor.OpenWords
open Go.Deep Go.ChangeShapes Go.WideShapes Go.Proofs.YtponmfnegdlppaaDoorW.PrintWords

/-- What a value of type t reads as: 'ok' is what is known of it, 'bk' what it weighs at least. -/
structure Opens (P : Program) (t : TypeId) {α : Type} (d : Kd α) (ok : α → Prop) (bk : α → Nat) : Prop where
  sz : P.cellsOf t = d.sz
  get : ∀ {H : Type} (enc : TypeId × Value → H) (w : World) (held : Bool) (fuel : Nat) (cs : List Value) (x : DataW H × List MemPlace),
    DataW.trod enc P w 0 (fun _ => true) held fuel t cs = some x → (∀ n ∈ x.1.weights P t, n ≤ reachBytes) →
    ∃ a : α, d.K w a cs ∧ ok a ∧ bk a ≤ Rows.uptoBulk x.1

theorem opens_int {P : Program} {t : TypeId} {k : IntKind} (h : P.underlying t = some (.int k)) (hs : P.cellsOf t = 1) :
    Opens P t (Kd.int k) (fun a => (Lit.int k a).wf = true) (fun _ => 1) where
  sz := hs
  get := by
    intro H enc w held fuel cs x hx _
    obtain ⟨n, rfl, rfl, hw⟩ := DataW.trod_int h hx
    exact ⟨n, rfl, hw, Nat.le_refl _⟩

theorem opens_bool {P : Program} {t : TypeId} (h : P.underlying t = some .bool) (hs : P.cellsOf t = 1) :
    Opens P t Kd.bool (fun _ => True) (fun _ => 1) where
  sz := hs
  get := by
    intro H enc w held fuel cs x hx _
    obtain ⟨n, rfl, rfl⟩ := DataW.trod_bool h hx
    exact ⟨n, rfl, trivial, Nat.le_refl _⟩

theorem opens_string {P : Program} {t : TypeId} (h : P.underlying t = some .string) (hs : P.cellsOf t = 1) :
    Opens P t Kd.string (fun a => a.size ≤ 140737488351232) (fun a => a.size + 1) where
  sz := hs
  get := by
    intro H enc w held fuel cs x hx hw
    obtain ⟨s, rfl, rfl, hl⟩ := DataW.trod_string h hx
    refine ⟨s, rfl, ?_, ?_⟩
    · have := hw s.data.toList.length (by simp [DataW.weights])
      simpa [reachBytes] using this
    · show s.size + 1 ≤ s.data.toList.length + 1
      rw [Array.length_toList]
      exact Nat.le_refl _

/-- Some fields of a struct, from cell 'off' on. -/
structure OpensF (P : Program) (fs : List Field) (off : Nat) {α : Type} (d : Kd α) (ok : α → Prop) (bk : α → Nat) : Prop where
  get : ∀ {H : Type} (enc : TypeId × Value → H) (w : World) (held : Bool) (fuel : Nat) (cs : List Value) (xs : List (DataW H × List MemPlace)),
    cs.length = off + d.sz →
    (fs.mapM fun f => DataW.trod enc P w 0 (fun _ => true) held fuel f.type ((cs.drop f.offset).take (P.cellsOf f.type))) = some xs →
    (∀ n ∈ DataW.weightsEach P (fs.map (·.type)) (xs.map (·.1)), n ≤ reachBytes) →
    ∃ a : α, d.K w a (cs.drop off) ∧ ok a ∧ bk a ≤ Rows.uptoBulkAll (xs.map (·.1))

theorem opensF_one {P : Program} {f : Field} {α : Type} {d : Kd α} {ok : α → Prop} {bk : α → Nat} (h : Opens P f.type d ok bk) : OpensF P [f] f.offset d ok bk where
  get := by
    intro H enc w held fuel cs xs hl hx hw
    rw [List.mapM_cons] at hx
    cases h1 : DataW.trod enc P w 0 (fun _ => true) held fuel f.type ((cs.drop f.offset).take (P.cellsOf f.type)) with
    | none => rw [h1] at hx; simp at hx
    | some x =>
      rw [h1] at hx
      have hx' : some [x] = some xs := hx
      obtain rfl := Option.some.inj hx'
      rw [List.take_of_length_le (by rw [List.length_drop, h.sz]; omega)] at h1
      obtain ⟨a, hK, ho, hb⟩ := h.get enc w held fuel _ x h1 (fun n hn => hw n (by simpa [DataW.weightsEach] using hn))
      exact ⟨a, hK, ho, by simpa [Rows.uptoBulkAll] using hb⟩

theorem opensF_cons {P : Program} {f : Field} {fs : List Field} {off : Nat} {α β : Type} {d : Kd α} {ok : α → Prop} {bk : α → Nat} {d' : Kd β} {ok' : β → Prop} {bk' : β → Nat}
    (h : Opens P f.type d ok bk) (ho : off = f.offset + d.sz) (h' : OpensF P fs off d' ok' bk') :
    OpensF P (f :: fs) f.offset (Kd.pair d d') (fun a => ok a.1 ∧ ok' a.2) (fun a => bk a.1 + bk' a.2) where
  get := by
    intro H enc w held fuel cs xs hl hx hw
    have hl' : cs.length = f.offset + (d.sz + d'.sz) := hl
    rw [List.mapM_cons] at hx
    cases h1 : DataW.trod enc P w 0 (fun _ => true) held fuel f.type ((cs.drop f.offset).take (P.cellsOf f.type)) with
    | none => rw [h1] at hx; simp at hx
    | some x =>
      rw [h1] at hx
      cases h2 : fs.mapM fun f => DataW.trod enc P w 0 (fun _ => true) held fuel f.type ((cs.drop f.offset).take (P.cellsOf f.type)) with
      | none => rw [h2] at hx; simp at hx
      | some ys =>
        rw [h2] at hx
        have hx' : some (x :: ys) = some xs := hx
        obtain rfl := Option.some.inj hx'
        obtain ⟨a, hK, hok, hb⟩ := h.get enc w held fuel _ x h1 (fun n hn => hw n (by simp only [List.map_cons, DataW.weightsEach, List.mem_append]; exact .inl hn))
        obtain ⟨a', hK', hok', hb'⟩ := h'.get enc w held fuel cs ys (by rw [hl', ho]; omega) h2 (fun n hn => hw n (by simp only [List.map_cons, DataW.weightsEach, List.mem_append]; exact .inr hn))
        refine ⟨(a, a'), ⟨_, _, ?_, hK, hK'⟩, ⟨hok, hok'⟩, ?_⟩
        · rw [h.sz, ho, ← List.drop_drop]
          exact (List.take_append_drop _ _).symm
        · simp only [List.map_cons, Rows.uptoBulkAll]
          omega

theorem opens_struct {P : Program} {t : TypeId} {fs : Array Field} {α β : Type} {d : Kd α} {ok : α → Prop} {bk : α → Nat} (g : β → α) (m : α → β) (hg : ∀ a, g (m a) = a)
    (hu : P.underlying t = some (.struct fs)) (hs : P.cellsOf t = d.sz) (h : OpensF P fs.toList 0 d ok bk) :
    Opens P t (Kd.iso d g) (fun b => ok (g b)) (fun b => bk (g b) + 1) where
  sz := hs
  get := by
    intro H enc w held fuel cs x hx hw
    cases fuel with
    | zero => simp [DataW.trod] at hx
    | succ fuel =>
      unfold DataW.trod at hx
      rw [hu] at hx
      simp only at hx
      split at hx
      · rename_i hl
        obtain ⟨xs, hxs, rfl⟩ := Option.map_eq_some_iff.1 hx
        obtain ⟨a, hK, hok, hb⟩ := h.get enc w held fuel cs xs (by rw [hl, hs, Nat.zero_add]) hxs (fun n hn => hw n (by
          simp only [DataW.weights, hu]
          exact hn))
        refine ⟨m a, ?_, ?_, ?_⟩
        · show d.K w (g (m a)) cs
          rw [hg]
          simpa using hK
        · show ok (g (m a))
          rw [hg]; exact hok
        · show bk (g (m a)) + 1 ≤ _
          rw [hg]
          simp only [Rows.uptoBulk]
          omega
      · simp at hx

theorem bulkAll_sum {H : Type} (l : List (DataW H)) : Rows.uptoBulkAll l = (l.map Rows.uptoBulk).sum := by
  induction l with
  | nil => rfl
  | cons x l ih => simp [Rows.uptoBulkAll, ih]

theorem weightsAll_mem {H : Type} {P : Program} {e : TypeId} {l : List (DataW H)} {d : DataW H} (hd : d ∈ l) {n : Nat} (hn : n ∈ d.weights P e) : n ∈ DataW.weightsAll P e l := by
  induction l with
  | nil => cases hd
  | cons y l ih =>
    simp only [DataW.weightsAll, List.mem_append]
    rcases List.mem_cons.1 hd with rfl | hd
    · exact .inl hn
    · exact .inr (ih hd)

theorem map_sum_le {α : Type} {f g : α → Nat} (l : List α) (h : ∀ a ∈ l, f a ≤ g a) : (l.map f).sum ≤ (l.map g).sum := by
  induction l with
  | nil => exact Nat.le_refl _
  | cons x l ih =>
    have h1 := h x (by simp)
    have h2 := ih (fun a ha => h a (by simp [ha]))
    simp only [List.map_cons, List.sum_cons]
    omega

theorem cells_len {w : World} {base : Nat} {a : Addr} {n : Nat} {cs : List Value} (h : w.cells? base a n = some cs) : cs.length = n ∧ ∀ i u, cs[i]? = some u → w.cell? (a.add i) = some u := by
  obtain ⟨_, h1, h2⟩ := World.cells?_some h
  refine ⟨h1, fun i u hu => ?_⟩
  obtain ⟨hi, rfl⟩ := List.getElem?_eq_some_iff.1 hu
  have := h2 i (by omega)
  rw [this]
  simp [List.getElem?_eq_getElem hi]

theorem opens_slice {P : Program} {t e : TypeId} {α : Type} [Inhabited α] {d : Kd α} {ok : α → Prop} {bk : α → Nat} (B : Nat)
    (hu : P.underlying t = some (.slice e)) (hs : P.cellsOf t = 1) (hB : P.bytesOf e = B) (h : Opens P e d ok bk) :
    Opens P t (Kd.slice e d) (fun l => l.length ≤ maxLen ∧ l.length * B ≤ 140737488351232 ∧ ∀ x ∈ l, ok x) (fun l => (l.map bk).sum + 1) where
  sz := hs
  get := by
    intro H enc w held fuel cs x hx hw
    rcases open_slice hu hx with ⟨rfl, rfl⟩ | ⟨a, len, cap, m, n, D, Pl, rfl, _, hl, hm, hmm, rfl, hel⟩
    · exact ⟨[], ⟨none, 0, rfl, Nat.le_refl _, rfl, by simp, by simp⟩, ⟨by simp, by simp, by simp⟩, by simp [Rows.uptoBulk]⟩
    · have hmc : m = cap := by simpa using hmm
      subst hmc
      have hw1 : (((List.range len).map D).length + ((List.range (m - len)).map fun j => D (len + j)).length) * P.bytesOf e ≤ reachBytes := hw _ (by simp [DataW.weights, hu])
      have hw2 : ∀ i, i < len → ∀ k ∈ (D i).weights P e, k ≤ reachBytes := fun i hi k hk => hw k (by
        simp only [DataW.weights, hu, List.mem_cons, List.mem_append]
        exact .inr (.inl (weightsAll_mem (List.mem_map.2 ⟨i, List.mem_range.2 hi, rfl⟩) hk)))
      have each : ∀ i, i < len → ∃ y : α, (∃ cs', w.cells? 0 (a.add (i * P.cellsOf e)) (P.cellsOf e) = some cs' ∧ d.K w y cs') ∧ ok y ∧ bk y ≤ Rows.uptoBulk (D i) := by
        intro i hi
        obtain ⟨cs', hc, ht⟩ := hel i (by omega)
        obtain ⟨y, hK, ho, hb⟩ := h.get enc w held n cs' _ ht (hw2 i hi)
        exact ⟨y, ⟨cs', hc, hK⟩, ho, hb⟩
      obtain ⟨f, hf⟩ := choose_lt each
      refine ⟨(List.range len).map f, ⟨some a, m, by simp, by simpa using hl, ?_⟩, ⟨?_, ?_, ?_⟩, ?_⟩
      · refine ⟨rfl, ?_, fun hn => ⟨a, rfl, fun j p hj => ?_⟩⟩
        · simp only [List.length_map, List.length_range]
          unfold maxLen at hm
          omega
        · obtain ⟨hjl, hp⟩ := List.getElem?_eq_some_iff.1 hj
          simp at hjl
          have hp' : f j = p := by simpa using hp
          obtain ⟨⟨cs', hc, hK⟩, _⟩ := hf j hjl
          obtain ⟨hcl, hcc⟩ := cells_len hc
          refine ⟨cs', by rw [hcl, h.sz], hp' ▸ hK, fun i u hu' => ?_⟩
          have := hcc i u hu'
          rw [Go.Deep.add_add, h.sz] at this
          exact this
      · simp; omega
      · simp only [List.length_map, List.length_range] at hw1 ⊢
        rw [hB] at hw1
        have : len * B ≤ (len + (m - len)) * B := Nat.mul_le_mul_right _ (by omega)
        unfold reachBytes at hw1
        omega
      · intro x hx
        obtain ⟨i, hi, rfl⟩ := List.mem_map.1 hx
        exact (hf i (List.mem_range.1 hi)).2.1
      · simp only [Rows.uptoBulk, bulkAll_sum, List.map_map]
        have := map_sum_le (f := bk ∘ f) (g := Rows.uptoBulk ∘ D) (List.range len) (fun i hi => (hf i (List.mem_range.1 hi)).2.2)
        omega

/-- An argument of a kind of one cell, or a struct: its value, and what is known of it. -/
theorem Opens.arg {P : Program} {t : TypeId} {α : Type} {d : Kd α} {ok : α → Prop} {bk : α → Nat} (h : Opens P t d ok bk) {H : Type} {enc : TypeId × Value → H} {W : World} {held : Bool} {v : Value} {x : DataW H} {ps : List MemPlace}
    (ht : DataW.Trod enc P W 0 (fun _ => true) held t v x ps) (hw : ∀ n ∈ x.weights P t, n ≤ reachBytes) : ∃ a : α, d.K W a v.cells.toList ∧ ok a ∧ bk a ≤ Rows.uptoBulk x := by
  obtain ⟨fuel, hf⟩ := ht
  exact h.get enc W held fuel _ (x, ps) hf hw
theorem each_of {H : Type} {P : Program} {ts : List TypeId} {ds : List (DataW H)} (h : (DataW.weightsEach P ts ds).all (· ≤ reachBytes) = true) {j : Nat} {t : TypeId} {d : DataW H} (ht : ts[j]? = some t) (hd : ds[j]? = some d) : ∀ n ∈ d.weights P t, n ≤ reachBytes :=
  fun n hn => by simpa using List.all_eq_true.1 h n (DataW.weights_mem_each ht hd n hn)

theorem int_of_K {k k' : IntKind} {w : World} {n x : Int} (h : (Kd.int k).K w x (Value.int k' n).cells.toList) : n = x := by
  have h' : [Value.int k' n] = [Value.int k x] := h
  simpa using (List.cons.inj h').1 |> fun e => (Value.int.inj e).2
theorem string_of_K {w : World} {s x : ByteArray} (h : Kd.string.K w x (Value.string s).cells.toList) : s = x := by
  have h' : [Value.string s] = [Value.string x] := h
  exact Value.string.inj (List.cons.inj h').1
theorem bool_of_K {w : World} {v : Value} {x : Bool} (hv : ∃ b, v = .bool b) (h : Kd.bool.K w x v.cells.toList) : v = .bool x := by
  obtain ⟨b, rfl⟩ := hv
  have h' : [Value.bool b] = [Value.bool x] := h
  exact (List.cons.inj h').1
theorem slice_of_K {α : Type} {e : Nat} {d : Kd α} {w : World} {a : Option Addr} {len cap : Nat} {xs : List α} (h : (Kd.slice e d).K w xs (Value.slice a len cap).cells.toList) : len = xs.length ∧ xs.length ≤ cap ∧ Kd.C d w a xs.length xs := by
  obtain ⟨A, c, he, hl, hr⟩ := h
  have h' : [Value.slice a len cap] = [Value.slice A xs.length c] := he
  obtain ⟨rfl, rfl, rfl⟩ := Value.slice.inj (List.cons.inj h').1
  exact ⟨rfl, hl, hr⟩
theorem agg_of_K {cs : Array Value} {l : List Value} (h : (Value.agg cs).cells.toList = l) : cs = l.toArray := by
  have h' : cs.toList = l := h
  rw [← h']
end Go.Proofs.YtponmfnegdlppaaDoor.OpenWords

end
section
/- The comparisons of strings as the printed functions spell them: each by 'is one less than the other'. -/
set_option linter.unusedVariables false
set_option linter.unusedSimpArgs false
namespace Go.Proofs.YtponmfnegdlppaaDoor.StrWords
theorem bytesLess_tri : ∀ a b : List UInt8, (!(Op.bytesLess a b || a == b)) = Op.bytesLess b a
  | [], [] => by decide
  | [], _ :: _ => by simp [Op.bytesLess]
  | _ :: _, [] => by simp [Op.bytesLess]
  | a :: x, b :: y => by
    have ih := bytesLess_tri x y
    simp only [Op.bytesLess]
    rcases Nat.lt_trichotomy a.toNat b.toNat with h | h | h
    · have h1 : a < b := UInt8.lt_iff_toNat_lt.2 h
      have h2 : ¬ b < a := fun h' => by have := UInt8.lt_iff_toNat_lt.1 h'; omega
      have h3 : ¬ b = a := fun h' => by subst h'; omega
      simp [h1, h2, h3]
    · have h1 : a = b := UInt8.toNat_inj.1 h
      subst h1
      have h2 : ¬ a < a := fun h' => by have := UInt8.lt_iff_toNat_lt.1 h'; omega
      simp only [h2, decide_false, Bool.false_or, beq_self_eq_true, Bool.true_and, List.cons_beq_cons]
      exact ih
    · have h1 : b < a := UInt8.lt_iff_toNat_lt.2 h
      have h2 : ¬ a < b := fun h' => by have := UInt8.lt_iff_toNat_lt.1 h'; omega
      have h3 : ¬ a = b := fun h' => by subst h'; omega
      simp [h1, h2, h3]
theorem bytesLess_le (a b : List UInt8) : (Op.bytesLess a b || a == b) = !(Op.bytesLess b a) := by
  rw [← bytesLess_tri a b]; simp
@[go_sem] theorem gtr_run (t : TypeId) (a b : ByteArray) : binOp .gtr t (.string a) (.string b) = pure (.bool (Op.bytesLess b.toList a.toList)) := by
  rw [← bytesLess_tri]; simp [binOp, Op.stringOp]
@[go_sem] theorem leq_run (t : TypeId) (a b : ByteArray) : binOp .leq t (.string a) (.string b) = pure (.bool !(Op.bytesLess b.toList a.toList)) := by
  rw [← bytesLess_le]; simp [binOp, Op.stringOp]
@[go_sem] theorem geq_run (t : TypeId) (a b : ByteArray) : binOp .geq t (.string a) (.string b) = pure (.bool !(Op.bytesLess a.toList b.toList)) := by
  simp [binOp, Op.stringOp]
open Go.Proofs.YtponmfnegdlppaaDoorW.PrintWords in
theorem rr_len {α : Type} {R : α → List Value → Prop} {size : Nat} {w : World} {A : Option Addr} {n m : Nat} {ps : List α} (h : m = n) (hr : ReadsRow R size w A m ps) : ReadsRow R size w A n ps := h ▸ hr
section
open Go.RowKit Go.Proofs.YtponmfnegdlppaaDoorW.PrintWords
variable {P : Program} {ops : Array Oper} {rest : List Oper} {o : Oper} {a : Act} {Q : Exit → Act → World → Prop} {α : Type}
/-- 'make([]T, 0, n)': an empty row of one's own, with room. -/
theorem R_make0 (d : Kd α) {w0 W : World} (base e : Nat) (hgd : o.guard = none) {N : Tmp} (hd : o.dst = some N) (t : TypeId) (x y : Operand) (ho : o.op = .makeSlice t x y) (n : Int) (hx : a.eval x = .int .i64 0) (hy : a.eval y = .int .i64 n)
    (ht : P.underlying t = some (.slice e)) (z : Value) (bytes : Nat) (hinfo : (P.info? e).map (fun i => (i.zero, i.size, i.bytes)) = some (some z, d.sz, bytes)) (hz : z.cells.size = d.sz) (hs0 : 0 < d.sz) (hb0 : 0 < bytes)
    (z0 : α) {ok okp : Nat → Prop} (_hzero : d.M W base okp z0 z.cells.toList) (_hok : ∀ k, okp k → ok k) (hfresh : ok W.heap.size) (h0 : 0 ≤ n) (hl : n.toNat * bytes ≤ 281474976710656) (HB : Below base w0 W) (hbase : base ≤ W.heap.size)
    (h : ∀ v1 w1, d.R e w1 base ok v1 [] → Below base w0 w1 → W.grownBy w1 none → (∃ b, v1.ownBlock = some b ∧ W.heap.size ≤ b) → wpList P ops Q rest (a.put o.dst v1) w1) : wpList P ops Q (o :: rest) a W := by
  obtain ⟨m, rfl⟩ := Int.eq_ofNat_of_zero_le h0
  simp only [Int.toNat_natCast] at hl
  obtain ⟨i0, hi, hzz⟩ := Option.map_eq_some_iff.1 hinfo
  simp only [Prod.mk.injEq] at hzz
  obtain ⟨hz0, hz1, hz2⟩ := hzz
  have hm : m ≤ 281474976710656 := Nat.le_trans (Nat.le_mul_of_pos_right _ hb0) hl
  refine wpList_make_own W hgd x y t ho base e i0 z d.sz ht hi hz0 hz1 .i64 .i64 (m : Int) m hx hy rfl (by rw [hz2, Nat.mul_comm]; exact hl) (by unfold maxLen; omega) hbase ?_
  intro w' ho' hg
  refine h _ w' ⟨fun k hk => ?_, [], ?_, ?_⟩ (HB.grown hg hbase (fun k hk => by cases hk)) hg ⟨W.heap.size, by simp [Value.ownBlock], Nat.le_refl _⟩
  · have : W.heap.size = k := by simpa [Value.ownBlock] using hk
    subst this
    exact hfresh
  · exact ho'
  · exact Reps.none _ _
end
end Go.Proofs.YtponmfnegdlppaaDoor.StrWords

end
section
-- Written by a program of this session (wip/tools/hprint.py, over the kit's printer), not by hand. Lean checks it.
namespace Go.Proofs.YtponmfnegdlppaaDoor.P
open Go.RowKit Go.Proofs.YtponmfnegdlppaaDoorW.PrintWords Go.Proofs.YtponmfnegdlppaaDoorW.PrintLast Go.Proofs.YtponmfnegdlppaaDoorW.PrintMore
attribute [local go_sem] max2_int min2_int max_two min_two max_three min_three max_four min_four
set_option linter.unusedVariables false
set_option linter.unusedSimpArgs false

def errW : Option Int → Value
  | none => .nilIface
  | some c => .iface 0 (.int .i64 c)
theorem errW_none : errW none = .nilIface := rfl
theorem errW_some (c : Int) : errW (some c) = .iface 0 (.int .i64 c) := rfl
theorem info29 : (Tryd.prog.info? 29).map (fun i => (i.zero, i.size, i.bytes)) = some (some (.agg #[(.int .i64 0), (.int .i64 0)]), 2, 16) := by kernel_rfl
theorem info38 : (Tryd.prog.info? 38).map (fun i => (i.zero, i.size, i.bytes)) = some (some (.agg #[(.int .i64 0), (.int .i64 0), (.int .i64 0)]), 3, 24) := by kernel_rfl
-- the values' own types
/-! #### struct type 38 -/
structure S38 where
  f0 : Int
  f1 : Int
  f2 : Int
def z38 : S38 := ⟨(0 : Int), (0 : Int), (0 : Int)⟩
def k38 : Kd S38 := Kd.iso (Kd.pair (Kd.int .i64) (Kd.pair (Kd.int .i64) (Kd.int .i64))) (fun x : S38 => (x.f0, x.f1, x.f2))
theorem k38_open {w : World} {x : S38} {cs : List Value} (h : k38.K w x cs) : cs = [.int .i64 x.f0, .int .i64 x.f1, .int .i64 x.f2] := by
  obtain ⟨_, _, rfl, rfl, ⟨_, _, rfl, rfl, rfl⟩⟩ := h
  exact rfl
theorem k38_openM {w : World} {base : Nat} {ok : Nat → Prop} {x : S38} {cs : List Value} (h : k38.M w base ok x cs) : cs = [.int .i64 x.f0, .int .i64 x.f1, .int .i64 x.f2] := by
  obtain ⟨_, _, rfl, rfl, ⟨_, _, rfl, rfl, rfl⟩⟩ := h
  exact rfl
theorem k38_mk (w : World) (x : S38)  : k38.K w x [.int .i64 x.f0, .int .i64 x.f1, .int .i64 x.f2] := ⟨[.int .i64 x.f0], [.int .i64 x.f1, .int .i64 x.f2], rfl, rfl, ⟨[.int .i64 x.f1], [.int .i64 x.f2], rfl, rfl, rfl⟩⟩
theorem k38_mkM (w : World) (base : Nat) (ok : Nat → Prop) (x : S38)  : k38.M w base ok x [.int .i64 x.f0, .int .i64 x.f1, .int .i64 x.f2] := ⟨[.int .i64 x.f0], [.int .i64 x.f1, .int .i64 x.f2], rfl, rfl, ⟨[.int .i64 x.f1], [.int .i64 x.f2], rfl, rfl, rfl⟩⟩
def rd_T38 (xs : List S38) (i : Int) : S38 := xs.getD i.toNat z38
theorem at_T38 {w : World} {A : Option Addr} {n : Nat} {xs : List S38} (h : Kd.C k38 w A n xs) (i : Int) (h0 : 0 ≤ i) (h1 : i < n) : ∃ ad , A = some ad ∧ w.cell? (ad.add (i.toNat * 3)) = some (.int .i64 (rd_T38 xs i).f0) ∧ w.cell? ⟨(ad.add (i.toNat * 3)).block, (ad.add (i.toNat * 3)).off + 1, none⟩ = some (.int .i64 (rd_T38 xs i).f1) ∧ w.cell? ⟨(ad.add (i.toNat * 3)).block, (ad.add (i.toNat * 3)).off + 2, none⟩ = some (.int .i64 (rd_T38 xs i).f2) := by
  obtain ⟨ad, c, e, _, hK, hc0⟩ := Kd.C_get h z38 i h0 h1
  have hc : ∀ j u, c[j]? = some u → w.cell? (ad.add (i.toNat * 3 + j)) = some u := hc0
  obtain rfl := k38_open hK
  exact ⟨ad, e, hc 0 _ rfl, by rw [← add_field _ _ 1 (by omega)]; exact hc 1 _ rfl, by rw [← add_field _ _ 2 (by omega)]; exact hc 2 _ rfl⟩

def rd_L2 (xs : List (List S38)) (i : Int) : (List S38) := xs.getD i.toNat ([] : List S38)
theorem at_L2 {w : World} {A : Option Addr} {n : Nat} {xs : List (List S38)} (h : Kd.C (Kd.slice 38 k38) w A n xs) (i : Int) (h0 : 0 ≤ i) (h1 : i < n) : ∃ ad A0 c0, A = some ad ∧ w.cell? (ad.add i.toNat) = some (.slice A0 (rd_L2 xs i).length c0) ∧ (rd_L2 xs i).length ≤ c0 ∧ k38.C w A0 (rd_L2 xs i).length (rd_L2 xs i) := by
  obtain ⟨ad, c, e, _, hK, hc0⟩ := Kd.C_get h ([] : List S38) i h0 h1
  have hc : ∀ j u, c[j]? = some u → w.cell? (ad.add (i.toNat * 1 + j)) = some u := hc0
  obtain ⟨A0, c0, rfl, l0, g0⟩ := hK
  exact ⟨ad, A0, c0, e, by have hq := hc 0 _ rfl; rwa [Nat.mul_one, Nat.add_zero] at hq, l0, g0⟩

/-! #### struct type 24 -/
structure S24 where
  f0 : Int
  f1 : (List S38)
  f2 : (List S38)
  f3 : Bool
def z24 : S24 := ⟨(0 : Int), ([] : List S38), ([] : List S38), false⟩
def k24 : Kd S24 := Kd.iso (Kd.pair (Kd.int .i64) (Kd.pair (Kd.slice 38 k38) (Kd.pair (Kd.slice 38 k38) Kd.bool))) (fun x : S24 => (x.f0, x.f1, x.f2, x.f3))
theorem k24_open {w : World} {x : S24} {cs : List Value} (h : k24.K w x cs) : ∃ A1 c1 A2 c2, cs = [.int .i64 x.f0, .slice A1 x.f1.length c1, .slice A2 x.f2.length c2, .bool x.f3] ∧ x.f1.length ≤ c1 ∧ k38.C w A1 x.f1.length x.f1 ∧ x.f2.length ≤ c2 ∧ k38.C w A2 x.f2.length x.f2 := by
  obtain ⟨_, _, rfl, rfl, ⟨_, _, rfl, ⟨A1, c1, rfl, l1, g1⟩, ⟨_, _, rfl, ⟨A2, c2, rfl, l2, g2⟩, rfl⟩⟩⟩ := h
  exact ⟨A1, c1, A2, c2, rfl, l1, g1, l2, g2⟩
theorem k24_openM {w : World} {base : Nat} {ok : Nat → Prop} {x : S24} {cs : List Value} (h : k24.M w base ok x cs) : ∃ v1 v2, cs = [.int .i64 x.f0, v1, v2, .bool x.f3] ∧ k38.R 38 w base ok v1 x.f1 ∧ k38.R 38 w base ok v2 x.f2 := by
  obtain ⟨_, _, rfl, rfl, ⟨_, _, rfl, ⟨v1, rfl, g1⟩, ⟨_, _, rfl, ⟨v2, rfl, g2⟩, rfl⟩⟩⟩ := h
  exact ⟨v1, v2, rfl, g1, g2⟩
theorem k24_mk (w : World) (x : S24) {A1 : Option Addr} {c1 : Nat} (l1 : x.f1.length ≤ c1) (g1 : k38.C w A1 x.f1.length x.f1) {A2 : Option Addr} {c2 : Nat} (l2 : x.f2.length ≤ c2) (g2 : k38.C w A2 x.f2.length x.f2) : k24.K w x [.int .i64 x.f0, .slice A1 x.f1.length c1, .slice A2 x.f2.length c2, .bool x.f3] := ⟨[.int .i64 x.f0], [.slice A1 x.f1.length c1, .slice A2 x.f2.length c2, .bool x.f3], rfl, rfl, ⟨[.slice A1 x.f1.length c1], [.slice A2 x.f2.length c2, .bool x.f3], rfl, ⟨A1, c1, rfl, l1, g1⟩, ⟨[.slice A2 x.f2.length c2], [.bool x.f3], rfl, ⟨A2, c2, rfl, l2, g2⟩, rfl⟩⟩⟩
theorem k24_mkM (w : World) (base : Nat) (ok : Nat → Prop) (x : S24) {v1 : Value} (g1 : k38.R 38 w base ok v1 x.f1) {v2 : Value} (g2 : k38.R 38 w base ok v2 x.f2) : k24.M w base ok x [.int .i64 x.f0, v1, v2, .bool x.f3] := ⟨[.int .i64 x.f0], [v1, v2, .bool x.f3], rfl, rfl, ⟨[v1], [v2, .bool x.f3], rfl, ⟨v1, rfl, g1⟩, ⟨[v2], [.bool x.f3], rfl, ⟨v2, rfl, g2⟩, rfl⟩⟩⟩
def rd_T24 (xs : List S24) (i : Int) : S24 := xs.getD i.toNat z24
theorem at_T24 {w : World} {A : Option Addr} {n : Nat} {xs : List S24} (h : Kd.C k24 w A n xs) (i : Int) (h0 : 0 ≤ i) (h1 : i < n) : ∃ ad A1 c1 A2 c2, A = some ad ∧ w.cell? (ad.add (i.toNat * 4)) = some (.int .i64 (rd_T24 xs i).f0) ∧ w.cell? ⟨(ad.add (i.toNat * 4)).block, (ad.add (i.toNat * 4)).off + 1, none⟩ = some (.slice A1 (rd_T24 xs i).f1.length c1) ∧ w.cell? ⟨(ad.add (i.toNat * 4)).block, (ad.add (i.toNat * 4)).off + 2, none⟩ = some (.slice A2 (rd_T24 xs i).f2.length c2) ∧ w.cell? ⟨(ad.add (i.toNat * 4)).block, (ad.add (i.toNat * 4)).off + 3, none⟩ = some (.bool (rd_T24 xs i).f3) ∧ (rd_T24 xs i).f1.length ≤ c1 ∧ k38.C w A1 (rd_T24 xs i).f1.length (rd_T24 xs i).f1 ∧ (rd_T24 xs i).f2.length ≤ c2 ∧ k38.C w A2 (rd_T24 xs i).f2.length (rd_T24 xs i).f2 := by
  obtain ⟨ad, c, e, _, hK, hc0⟩ := Kd.C_get h z24 i h0 h1
  have hc : ∀ j u, c[j]? = some u → w.cell? (ad.add (i.toNat * 4 + j)) = some u := hc0
  obtain ⟨A1, c1, A2, c2, rfl, l1, g1, l2, g2⟩ := k24_open hK
  exact ⟨ad, A1, c1, A2, c2, e, hc 0 _ rfl, by rw [← add_field _ _ 1 (by omega)]; exact hc 1 _ rfl, by rw [← add_field _ _ 2 (by omega)]; exact hc 2 _ rfl, by rw [← add_field _ _ 3 (by omega)]; exact hc 3 _ rfl, l1, g1, l2, g2⟩

/-! #### struct type 29 -/
structure S29 where
  f0 : Int
  f1 : Int
def z29 : S29 := ⟨(0 : Int), (0 : Int)⟩
def k29 : Kd S29 := Kd.iso (Kd.pair (Kd.int .i64) (Kd.int .i64)) (fun x : S29 => (x.f0, x.f1))
theorem k29_open {w : World} {x : S29} {cs : List Value} (h : k29.K w x cs) : cs = [.int .i64 x.f0, .int .i64 x.f1] := by
  obtain ⟨_, _, rfl, rfl, rfl⟩ := h
  exact rfl
theorem k29_openM {w : World} {base : Nat} {ok : Nat → Prop} {x : S29} {cs : List Value} (h : k29.M w base ok x cs) : cs = [.int .i64 x.f0, .int .i64 x.f1] := by
  obtain ⟨_, _, rfl, rfl, rfl⟩ := h
  exact rfl
theorem k29_mk (w : World) (x : S29)  : k29.K w x [.int .i64 x.f0, .int .i64 x.f1] := ⟨[.int .i64 x.f0], [.int .i64 x.f1], rfl, rfl, rfl⟩
theorem k29_mkM (w : World) (base : Nat) (ok : Nat → Prop) (x : S29)  : k29.M w base ok x [.int .i64 x.f0, .int .i64 x.f1] := ⟨[.int .i64 x.f0], [.int .i64 x.f1], rfl, rfl, rfl⟩
def rd_T29 (xs : List S29) (i : Int) : S29 := xs.getD i.toNat z29
theorem at_T29 {w : World} {A : Option Addr} {n : Nat} {xs : List S29} (h : Kd.C k29 w A n xs) (i : Int) (h0 : 0 ≤ i) (h1 : i < n) : ∃ ad , A = some ad ∧ w.cell? (ad.add (i.toNat * 2)) = some (.int .i64 (rd_T29 xs i).f0) ∧ w.cell? ⟨(ad.add (i.toNat * 2)).block, (ad.add (i.toNat * 2)).off + 1, none⟩ = some (.int .i64 (rd_T29 xs i).f1) := by
  obtain ⟨ad, c, e, _, hK, hc0⟩ := Kd.C_get h z29 i h0 h1
  have hc : ∀ j u, c[j]? = some u → w.cell? (ad.add (i.toNat * 2 + j)) = some u := hc0
  obtain rfl := k29_open hK
  exact ⟨ad, e, hc 0 _ rfl, by rw [← add_field _ _ 1 (by omega)]; exact hc 1 _ rfl⟩

end Go.Proofs.YtponmfnegdlppaaDoor.P

end
section
-- Written by a program of this session (wip/tools/hprint.py, over the kit's printer), not by hand. Lean checks it.
namespace Go.Proofs.YtponmfnegdlppaaDoor.P
open Go.RowKit Go.Proofs.YtponmfnegdlppaaDoorW.PrintWords Go.Proofs.YtponmfnegdlppaaDoor.OpenWords
set_option linter.unusedVariables false
def ok38 (x : S38) : Prop := ((Lit.int .i64 x.f0).wf = true) ∧ ((Lit.int .i64 x.f1).wf = true) ∧ (Lit.int .i64 x.f2).wf = true
def bk38 (x : S38) : Nat := (1 + (1 + 1)) + 1
instance : Inhabited S38 := ⟨z38⟩
theorem opens38 : Opens Tryd.prog 38 k38 ok38 bk38 :=
  opens_struct (fun x : S38 => (x.f0, x.f1, x.f2)) (fun a => ⟨a.1, a.2.1, a.2.2⟩) (fun _ => rfl) Tryd.underlying38 (by kernel_rfl) (opensF_cons (opens_int Tryd.underlying3 (by kernel_rfl)) rfl (opensF_cons (opens_int Tryd.underlying3 (by kernel_rfl)) rfl (opensF_one (opens_int Tryd.underlying3 (by kernel_rfl)))))
def ok24 (x : S24) : Prop := ((Lit.int .i64 x.f0).wf = true) ∧ (x.f1.length ≤ maxLen ∧ x.f1.length * 24 ≤ 140737488351232 ∧ ∀ y ∈ x.f1, ok38 y) ∧ (x.f2.length ≤ maxLen ∧ x.f2.length * 24 ≤ 140737488351232 ∧ ∀ y ∈ x.f2, ok38 y) ∧ True
def bk24 (x : S24) : Nat := (1 + (((x.f1.map fun x => (bk38 x)).sum + 1) + (((x.f2.map fun x => (bk38 x)).sum + 1) + 1))) + 1
instance : Inhabited S24 := ⟨z24⟩
theorem opens24 : Opens Tryd.prog 24 k24 ok24 bk24 :=
  opens_struct (fun x : S24 => (x.f0, x.f1, x.f2, x.f3)) (fun a => ⟨a.1, a.2.1, a.2.2.1, a.2.2.2⟩) (fun _ => rfl) Tryd.underlying24 (by kernel_rfl) (opensF_cons (opens_int Tryd.underlying3 (by kernel_rfl)) rfl (opensF_cons (opens_slice 24 Tryd.underlying22 (by kernel_rfl) (by kernel_rfl) opens38) rfl (opensF_cons (opens_slice 24 Tryd.underlying22 (by kernel_rfl) (by kernel_rfl) opens38) rfl (opensF_one (opens_bool Tryd.underlying4 (by kernel_rfl))))))
def ok29 (x : S29) : Prop := ((Lit.int .i64 x.f0).wf = true) ∧ (Lit.int .i64 x.f1).wf = true
def bk29 (x : S29) : Nat := (1 + 1) + 1
instance : Inhabited S29 := ⟨z29⟩
theorem opens29 : Opens Tryd.prog 29 k29 ok29 bk29 :=
  opens_struct (fun x : S29 => (x.f0, x.f1)) (fun a => ⟨a.1, a.2⟩) (fun _ => rfl) Tryd.underlying29 (by kernel_rfl) (opensF_cons (opens_int Tryd.underlying3 (by kernel_rfl)) rfl (opensF_one (opens_int Tryd.underlying3 (by kernel_rfl))))
end Go.Proofs.YtponmfnegdlppaaDoor.P

end
section
/- spoil: a book's two lists written over and added to; contract by hand. -/
namespace Go.Proofs.YtponmfnegdlppaaDoor.P
open Go.RowKit Go.Proofs.YtponmfnegdlppaaDoorW.PrintWords Go.Proofs.YtponmfnegdlppaaDoorW.PrintLast Go.Proofs.YtponmfnegdlppaaDoorW.PrintMore
set_option linter.unusedVariables false
set_option linter.unusedSimpArgs false

/-- One element of an own row written. -/
theorem put38 {W : World} {base : Nat} {P : Nat → Prop} {v : Value} {l : List S38} (h : Kd.R k38 38 W base P v l) (i : Nat) (hi : i < l.length) (x : S38) :
    ∃ g c, v = .slice (some ⟨g, 0, none⟩) l.length c ∧ P g ∧ base ≤ g ∧
      (∃ a0 a1 a2 : Int, W.cell? ⟨g, i * 3, none⟩ = some (.int .i64 a0) ∧ W.cell? ⟨g, i * 3 + 1, none⟩ = some (.int .i64 a1) ∧ W.cell? ⟨g, i * 3 + 2, none⟩ = some (.int .i64 a2)) ∧
      (W.frozen? ⟨g, i * 3, none⟩ = false ∧ W.frozen? ⟨g, i * 3 + 1, none⟩ = false ∧ W.frozen? ⟨g, i * 3 + 2, none⟩ = false) ∧
      Kd.R k38 38 (((W.setCell ⟨g, i * 3, none⟩ (.int .i64 x.f0)).setCell ⟨g, i * 3 + 1, none⟩ (.int .i64 x.f1)).setCell ⟨g, i * 3 + 2, none⟩ (.int .i64 x.f2)) base P v (l.set i x) ∧
      W.grownBy (((W.setCell ⟨g, i * 3, none⟩ (.int .i64 x.f0)).setCell ⟨g, i * 3 + 1, none⟩ (.int .i64 x.f1)).setCell ⟨g, i * 3 + 2, none⟩ (.int .i64 x.f2)) (some g) := by
  obtain ⟨g, c, rfl, gb, gl, _⟩ := Kd.R_form h (by omega)
  obtain ⟨ce, hcl, hM, hcc, hfr⟩ := Kd.R_elem h z38 (i : Int) (by omega) (by omega)
  obtain rfl := k38_openM hM
  have hP := Kd.R_seg h (i : Int) (by omega) (by omega) (seg := [.int .i64 x.f0, .int .i64 x.f1, .int .i64 x.f2]) (j := 0) hcl hcc (show 3 ≤ 3 from by decide) (x' := x) (k38_mkM _ _ _ x) (fun _ hk => hk)
  rw [Int.toNat_natCast] at hcc hfr hP
  exact ⟨g, c, rfl, h.1 _ rfl, gb, ⟨_, _, _, hcc 0 _ rfl, hcc 1 _ rfl, hcc 2 _ rfl⟩, ⟨hfr 0, hfr 1, hfr 2⟩, hP.1, hP.2⟩

/-- where spoil stands -/
def SP (w0 w : World) (P0 P1 : Nat → Prop) (t : Int) (fl : Bool) (u0 u1 : Value) (n0 n1 : Nat) (W : World) : Prop :=
  W.heap[w.heap.size]? = some (.cells #[.int .i64 t, u0, u1, .bool fl] 24 (0, 0)) ∧
  (∃ l0, l0.length = n0 ∧ Kd.R k38 38 W w0.heap.size (fun k => P0 k ∧ k < w.heap.size) u0 l0) ∧
  (∃ l1, l1.length = n1 ∧ Kd.R k38 38 W w0.heap.size (fun k => P1 k ∧ k < w.heap.size) u1 l1) ∧
  Kept w W (fun k => P0 k ∨ P1 k) ∧ Below w0.heap.size w0 W

theorem SP.put0 {w0 w W : World} {P0 P1 : Nat → Prop} {t : Int} {fl : Bool} {u0 u1 : Value} {n0 n1 : Nat} (hd : ∀ k, P0 k → ¬ P1 k) (h : SP w0 w P0 P1 t fl u0 u1 n0 n1 W) (i : Nat) (hi : i < n0) (x : S38) :
    ∃ g c, u0 = .slice (some ⟨g, 0, none⟩) n0 c ∧
      (∃ a0 a1 a2 : Int, W.cell? ⟨g, i * 3, none⟩ = some (.int .i64 a0) ∧ W.cell? ⟨g, i * 3 + 1, none⟩ = some (.int .i64 a1) ∧ W.cell? ⟨g, i * 3 + 2, none⟩ = some (.int .i64 a2)) ∧
      (W.frozen? ⟨g, i * 3, none⟩ = false ∧ W.frozen? ⟨g, i * 3 + 1, none⟩ = false ∧ W.frozen? ⟨g, i * 3 + 2, none⟩ = false) ∧
      SP w0 w P0 P1 t fl u0 u1 n0 n1 (((W.setCell ⟨g, i * 3, none⟩ (.int .i64 x.f0)).setCell ⟨g, i * 3 + 1, none⟩ (.int .i64 x.f1)).setCell ⟨g, i * 3 + 2, none⟩ (.int .i64 x.f2)) := by
  obtain ⟨s0, ⟨l, rfl, hR⟩, ⟨l1, hl1, hR1⟩, s3, s4⟩ := h
  obtain ⟨g, c, e, hPg, hbg, hx, hf, hR2, hg⟩ := put38 hR i hi x
  have hlt := (Array.getElem?_eq_some_iff.1 s0).1
  refine ⟨g, c, e, hx, hf, (hg.block _ hlt (fun e => by injection e with e; have := hPg.2; omega)).trans s0, ⟨l.set i x, by simp, hR2⟩, ⟨l1, hl1, Kd.R_grown hR1 hg (fun k hk e => hd g hPg.1 (by injection e with e; subst e; exact hk.1))⟩, ?_, ?_⟩
  · exact Kept.of_grown hg s3 (fun k e => .inl (.inl (by injection e with e; subst e; exact hPg.1)))
  · exact ((s4.setCell hbg _).setCell hbg _).setCell hbg _
theorem SP.put1 {w0 w W : World} {P0 P1 : Nat → Prop} {t : Int} {fl : Bool} {u0 u1 : Value} {n0 n1 : Nat} (hd : ∀ k, P0 k → ¬ P1 k) (h : SP w0 w P0 P1 t fl u0 u1 n0 n1 W) (i : Nat) (hi : i < n1) (x : S38) :
    ∃ g c, u1 = .slice (some ⟨g, 0, none⟩) n1 c ∧
      (∃ a0 a1 a2 : Int, W.cell? ⟨g, i * 3, none⟩ = some (.int .i64 a0) ∧ W.cell? ⟨g, i * 3 + 1, none⟩ = some (.int .i64 a1) ∧ W.cell? ⟨g, i * 3 + 2, none⟩ = some (.int .i64 a2)) ∧
      (W.frozen? ⟨g, i * 3, none⟩ = false ∧ W.frozen? ⟨g, i * 3 + 1, none⟩ = false ∧ W.frozen? ⟨g, i * 3 + 2, none⟩ = false) ∧
      SP w0 w P0 P1 t fl u0 u1 n0 n1 (((W.setCell ⟨g, i * 3, none⟩ (.int .i64 x.f0)).setCell ⟨g, i * 3 + 1, none⟩ (.int .i64 x.f1)).setCell ⟨g, i * 3 + 2, none⟩ (.int .i64 x.f2)) := by
  obtain ⟨s0, ⟨l1, hl1, hR1⟩, ⟨l, rfl, hR⟩, s3, s4⟩ := h
  obtain ⟨g, c, e, hPg, hbg, hx, hf, hR2, hg⟩ := put38 hR i hi x
  have hlt := (Array.getElem?_eq_some_iff.1 s0).1
  refine ⟨g, c, e, hx, hf, (hg.block _ hlt (fun e => by injection e with e; have := hPg.2; omega)).trans s0, ⟨l1, hl1, Kd.R_grown hR1 hg (fun k hk e => hd k hk.1 (by injection e with e; subst e; exact hPg.1))⟩, ⟨l.set i x, by simp, hR2⟩, ?_, ?_⟩
  · exact Kept.of_grown hg s3 (fun k e => .inl (.inr (by injection e with e; subst e; exact hPg.1)))
  · exact ((s4.setCell hbg _).setCell hbg _).setCell hbg _
theorem SP.box {w0 w W : World} {P0 P1 : Nat → Prop} {t : Int} {fl : Bool} {u0 u1 : Value} {n0 n1 : Nat} (h : SP w0 w P0 P1 t fl u0 u1 n0 n1 W) :
    W.cell? ⟨w.heap.size, 1, none⟩ = some u0 ∧ W.cell? ⟨w.heap.size, 2, none⟩ = some u1 := by
  constructor <;> (rw [cell_of_row _ _ _ _ _ _ h.1]; rfl)
/-- two rows of the call's own, told apart, that grow -/
def SQ (w0 w : World) (S : Nat → Prop) (vm vr : Value) (m : Nat) (W : World) : Prop :=
  ∃ (Pm Pr : Nat → Prop) (lm lr : List S38), lm.length ≤ 100000 + m ∧ lr.length ≤ 100000 + m ∧ Kd.R k38 38 W w0.heap.size Pm vm lm ∧ Kd.R k38 38 W w0.heap.size Pr vr lr ∧ (∀ k, Pm k → ¬ Pr k) ∧
    (∀ k, Pm k → S k ∨ w.heap.size ≤ k) ∧ (∀ k, Pr k → S k ∨ w.heap.size ≤ k) ∧ Kept w W S ∧ Below w0.heap.size w0 W
theorem SP.SQ {w0 w W : World} {P0 P1 : Nat → Prop} {t : Int} {fl : Bool} {u0 u1 : Value} {n0 n1 : Nat} (hd : ∀ k, P0 k → ¬ P1 k) (h0 : n0 ≤ 100000) (h1 : n1 ≤ 100000) (h : SP w0 w P0 P1 t fl u0 u1 n0 n1 W) :
    SQ w0 w (fun k => P0 k ∨ P1 k) u0 u1 0 W := by
  obtain ⟨s0, ⟨l0, hl0, hR0⟩, ⟨l1, hl1, hR1⟩, s3, s4⟩ := h
  exact ⟨_, _, l0, l1, by omega, by omega, hR0, hR1, fun k h0 h1 => hd k h0.1 h1.1, fun k h => .inl (.inl h.1), fun k h => .inl (.inr h.1), s3, s4⟩
theorem SQ.swap {w0 w W : World} {S : Nat → Prop} {vm vr : Value} {m : Nat} (h : SQ w0 w S vm vr m W) : SQ w0 w S vr vm m W := by
  obtain ⟨Pm, Pr, lm, lr, h1, h2, h3, h4, h5, h6, h7, h8, h9⟩ := h
  exact ⟨Pr, Pm, lr, lm, h2, h1, h4, h3, fun k a b => h5 k b a, h7, h6, h8, h9⟩
/-- One is added to the first row. -/
theorem SQ.app {w0 w W w1 : World} {S : Nat → Prop} {vm vr v1 : Value} {m' : Nat} {Pm Pr : Nat → Prop} {lm lr : List S38} {p : S38} (hl : lm.length < 100000 + m') (hr : lr.length ≤ 100000 + m') (h3 : Kd.R k38 38 W w0.heap.size Pm vm lm) (h4 : Kd.R k38 38 W w0.heap.size Pr vr lr)
    (h5 : ∀ k, Pm k → ¬ Pr k) (h6 : ∀ k, Pm k → S k ∨ w.heap.size ≤ k) (h7 : ∀ k, Pr k → S k ∨ w.heap.size ≤ k) (h8 : Kept w W S)
    (ho : Kd.R k38 38 w1 w0.heap.size (fun k => Pm k ∨ W.heap.size ≤ k) v1 (lm ++ [p])) (hb : Below w0.heap.size w0 w1) (hg : W.grownBy w1 vm.ownBlock) : SQ w0 w S v1 vr m' w1 := by
  have hs := h8.1
  refine ⟨_, fun k => Pr k ∧ k < W.heap.size, lm ++ [p], lr, by simp; omega, hr, ho, ?_, ?_, ?_, fun k h => h7 k h.1, ?_, hb⟩
  · exact Kd.R_grown (Kd.R_mono (Kd.R_bound h4) (fun k hk => ⟨hk.1, hk.2.2.1⟩)) hg (fun k hk e => h5 k (h3.1 k e.symm) hk.1)
  · rintro k (h | h) ⟨a, b⟩
    · exact h5 k h a
    · omega
  · rintro k (h | h)
    · exact h6 k h
    · right; omega
  · exact Kept.of_grown hg h8 (fun k e => h6 k (h3.1 k e))

set_option maxHeartbeats 4000000 in
set_option maxRecDepth 100000 in
theorem spoil_any (P0 P1 : Nat → Prop) (t : Int) (fl : Bool) (u0 u1 : Value) (l0 l1 : List S38) (w0 w : World) (hB : Below w0.heap.size w0 w)
    (h0 : Kd.R k38 38 w w0.heap.size P0 u0 l0) (h1 : Kd.R k38 38 w w0.heap.size P1 u1 l1) (hd : ∀ k, P0 k → ¬ P1 k) (hl0 : l0.length ≤ 100000) (hl1 : l1.length ≤ 100000) :
    Calls Tryd.prog 52 #[.agg #[.int .i64 t, u0, u1, .bool fl]] w fun e w' => e = .returned (.tuple #[]) ∧ Below w0.heap.size w0 w' ∧ Kept w w' (fun k => P0 k ∨ P1 k) := by
  have hsz := hB.size
  obtain ⟨A0, c0, rfl, hc0, hC0⟩ := Kd.R_reads h0
  obtain ⟨A1, c1, rfl, hc1, hC1⟩ := Kd.R_reads h1
  have hSP : SP w0 w P0 P1 t fl (.slice A0 l0.length c0) (.slice A1 l1.length c1) l0.length l1.length (w.alloc (.cells #[.int .i64 t, .slice A0 l0.length c0, .slice A1 l1.length c1, .bool fl] 24)) := by
    refine ⟨heap_alloc_new w _, ⟨l0, rfl, ?_⟩, ⟨l1, rfl, ?_⟩, (Kept.refl w _).alloc _, hB.alloc hsz _⟩
    · exact Kd.R_alloc (Kd.R_mono (Kd.R_bound h0) (fun k hk => ⟨hk.1, hk.2.2.1⟩)) _
    · exact Kd.R_alloc (Kd.R_mono (Kd.R_bound h1) (fun k hk => ⟨hk.1, hk.2.2.1⟩)) _
  have HSP := Aside0.mk hSP
  have HL0 := Aside0.mk hl0
  have HL1 := Aside0.mk hl1
  have HD := Aside0.mk hd
  have HSZ := Aside0.mk hsz
  clear hSP hC0 hC1 hc0 hc1 h0 h1 hB hl0 hl1 hd hsz
  generalize hn0 : l0.length = n0 at *
  generalize hn1 : l1.length = n1 at *
  clear hn0 hn1
  have hb0 : (n0 : Int) ≤ 100000 := by have := HL0.out; omega
  have hb1 : (n1 : Int) ≤ 100000 := by have := HL1.out; omega
  have hu22 := Tryd.underlying22
  have hu33 := Tryd.underlying38
  have hu24 := Tryd.underlying24
  go_enter Tryd.func52, Tryd.ntmps52
  go_wp2_with fail
  generalize w.alloc (.cells #[.int .i64 t, .slice A0 n0 c0, .slice A1 n1 c1, .bool fl] 24) = W1 at HSP ⊢
  go_loopw [2] (fun v wr => ∃ i : Nat, i ≤ n0 ∧ v = .int .i64 i ∧ Aside0 (SP w0 w P0 P1 t fl (.slice A0 n0 c0) (.slice A1 n1 c1) n0 n1 wr)) (fun v _ => n0 - (intOf v).toNat)
  case atStart => exact ⟨0, by omega, rfl, HSP⟩
  case round =>
    clear HSP
    obtain ⟨i, hi, rfl, hS⟩ := hrel
    by_cases hlt : i < n0
    · have hd1 : decide ((i : Int) < (n0 : Int)) = true := by simp; omega
      have hd2 : decide (i < n0) = true := by simp; omega
      obtain ⟨hx1, _⟩ := hS.out.box
      obtain ⟨g, c, e, ⟨a0, a1, a2, hx30, hx31, hx32⟩, ⟨hf0, hf1, hf2⟩, hS2⟩ := hS.out.put0 HD.out i hlt ⟨78, 0, 0⟩
      injection e with e1 e2 e3
      subst e1 e3
      have HS2 := Aside0.mk hS2
      clear hS2 hS
      go_wp2_with fail
      go_roundw
      case rel => exact ⟨i + 1, by omega, by go_num, HS2⟩
      case measure => simp [intOf]; omega
    · obtain rfl : i = n0 := by omega
      obtain ⟨hx1, _⟩ := hS.out.box
      go_wp2_with fail
      clear hx1
      go_loopw [3] (fun v wr => ∃ i2 : Nat, i2 ≤ n1 ∧ v = .int .i64 i2 ∧ Aside0 (SP w0 w P0 P1 t fl (.slice A0 i c0) (.slice A1 n1 c1) i n1 wr)) (fun v _ => n1 - (intOf v).toNat)
      case atStart => exact ⟨0, by omega, rfl, hS⟩
      case round =>
        clear hS
        obtain ⟨i2, hi2, rfl, hS⟩ := hrel
        by_cases hlt2 : i2 < n1
        · have hd1 : decide ((i2 : Int) < (n1 : Int)) = true := by simp; omega
          have hd2 : decide (i2 < n1) = true := by simp; omega
          obtain ⟨_, hx1⟩ := hS.out.box
          obtain ⟨g, c, e, ⟨a0, a1, a2, hx30, hx31, hx32⟩, ⟨hf0, hf1, hf2⟩, hS2⟩ := hS.out.put1 HD.out i2 hlt2 ⟨79, 0, 0⟩
          injection e with e1 e2 e3
          subst e1 e3
          have HS2 := Aside0.mk hS2
          clear hS2 hS
          go_wp2_with fail
          go_roundw
          case rel => exact ⟨i2 + 1, by omega, by go_num, HS2⟩
          case measure => simp [intOf]; omega
        · obtain rfl : i2 = n1 := by omega
          obtain ⟨hx1, hx2⟩ := hS.out.box
          have HQ := Aside0.mk (hS.out.SQ HD.out HL0.out HL1.out)
          clear hS
          go_wp2_with fail
          clear hx1 hx2
          go_loopw [4, 5, 6] (fun vm vr v wr => ∃ m : Nat, m ≤ 64 ∧ v = .int .i64 m ∧ Aside0 (SQ w0 w (fun k => P0 k ∨ P1 k) vm vr (2 * m) wr)) (fun _ _ v _ => 64 - (intOf v).toNat)
          case atStart => exact ⟨0, by omega, rfl, HQ⟩
          case round =>
            clear HQ
            obtain ⟨m, hm, rfl, hQ⟩ := hrel
            by_cases hlt3 : m < 64
            · have hd1 : decide ((m : Int) < 64) = true := by simp; omega
              obtain ⟨Pm, Pr, lm, lr, q1, q2, q3, q4, q5, q6, q7, q8, q9⟩ := hQ.out
              have G1 := Aside0.mk q1
              have G3 := Aside0.mk (Kd.R_mono (ok' := fun k => Pm k ∨ wr.heap.size ≤ k) q3 (fun k h => .inl h))
              have G9 := Aside0.mk q9
              have GS := Aside0.mk (Nat.le_trans HSZ.out q8.1)
              have GA := Aside0.mk (fun (v1 : Value) (w1 : World) => SQ.app (w1 := w1) (v1 := v1) (m' := 2 * m + 1) (p := ⟨80, 0, 0⟩) (by omega) (by omega) q3 q4 q5 q6 q7 q8)
              clear q1 q2 q3 q4 q5 q6 q7 q8 q9 hQ
              go_wp2_with (first
                | ((with_reducible refine gate_builtin (b := .append) (xs := #[.tmp 39, .tmp 41]) rfl ?_); at_builtin; refine Kd.R_append k38 (w0 := w0) w0.heap.size rfl (.tmp 39) (.tmp 41) 22 38 (.agg #[.int .i64 0, .int .i64 0, .int .i64 0]) 24 rfl Tryd.underlying22 info38 rfl (by decide) (by omega) u4 lm ⟨80, 0, 0⟩ [.int .i64 80, .int .i64 0, .int .i64 0] (fun k => Pm k ∨ wr.heap.size ≤ k) (fun _ => False) rfl rfl (k38_mkM _ _ _ _) (fun _ hk => hk.elim) (fun k hk => .inr hk) G3.out G9.out GS.out (by have := G1.out; omega) ?_; intro v1 w1 ho hb hg hat; have HQ2 := Aside0.mk (GA.out v1 w1 ho hb hg).swap; clear ho hb hg hat GA G1 G3 G9 GS; obtain ⟨Pn, Ps, ln, ls, q1, q2, q3, q4, q5, q6, q7, q8, q9⟩ := HQ2.out; have G1 := Aside0.mk q1; have G3 := Aside0.mk (Kd.R_mono (ok' := fun k => Pn k ∨ w1.heap.size ≤ k) q3 (fun k h => .inl h)); have G9 := Aside0.mk q9; have GS := Aside0.mk (Nat.le_trans HSZ.out q8.1); have GB := Aside0.mk (fun (v1 : Value) (w2 : World) => SQ.app (w1 := w2) (v1 := v1) (m' := 2 * m + 1 + 1) (p := ⟨81, 0, 0⟩) (by omega) (by omega) q3 q4 q5 q6 q7 q8); clear q1 q2 q3 q4 q5 q6 q7 q8 q9 HQ2)
                | ((with_reducible refine gate_builtin (b := .append) (xs := #[.tmp 43, .tmp 45]) rfl ?_); at_builtin; refine Kd.R_append k38 (w0 := w0) w0.heap.size rfl (.tmp 43) (.tmp 45) 22 38 (.agg #[.int .i64 0, .int .i64 0, .int .i64 0]) 24 rfl Tryd.underlying22 info38 rfl (by decide) (by omega) u5 ln ⟨81, 0, 0⟩ [.int .i64 81, .int .i64 0, .int .i64 0] (fun k => Pn k ∨ w1.heap.size ≤ k) (fun _ => False) rfl rfl (k38_mkM _ _ _ _) (fun _ hk => hk.elim) (fun k hk => .inr hk) G3.out G9.out GS.out (by have := G1.out; omega) ?_; intro v2 w2 ho hb hg hat; have HQ3 := Aside0.mk (GB.out v2 w2 ho hb hg).swap; clear ho hb hg hat GB G1 G3 G9 GS))
              go_roundw
              case rel => exact ⟨m + 1, by omega, by go_num, by rw [Nat.mul_add]; exact HQ3⟩
              case measure => simp [intOf]; omega
            · obtain rfl : m = 64 := by omega
              obtain ⟨_, _, _, _, _, _, _, _, _, _, _, q8, q9⟩ := hQ.out
              have G8 := Aside0.mk q8
              have G9 := Aside0.mk q9
              clear q8 q9 hQ
              go_wp2_with fail
              go_end0
              exact ⟨rfl, G9.out, G8.out⟩
end Go.Proofs.YtponmfnegdlppaaDoor.P

end
section
/- The laid variable of the seat: its four cells. -/
namespace Go.Proofs.YtponmfnegdlppaaDoor.P
open Go.RowKit Go.Proofs.YtponmfnegdlppaaDoorW.PrintWords Go.Proofs.YtponmfnegdlppaaDoorW.PrintLast Go.Proofs.YtponmfnegdlppaaDoorW.PrintMore
theorem gSpent : Tryd.prog.globalNamed "winnow/ledger.spent" = some 0 := by kernel_rfl
theorem gSpentType : (Tryd.prog.globals[0]?).map (·.type) = some 70 := by kernel_rfl
theorem cells70 : Tryd.prog.cellsOf 70 = 4 := by kernel_rfl
theorem cells3 : Tryd.prog.cellsOf 3 = 1 := by kernel_rfl
/-- spent's cells -/
structure Tab (w : World) : Prop where
  c0 : w.cell? ⟨0, 0, none⟩ = some (.int .i64 0)
  c1 : w.cell? ⟨0, 1, none⟩ = some (.int .i64 1)
  c2 : w.cell? ⟨0, 2, none⟩ = some (.int .i64 1)
  c3 : w.cell? ⟨0, 3, none⟩ = some (.int .i64 1)
theorem table {W : World} (h : laidMetH Tryd.prog [("winnow/ledger.spent", Rows.laid_winnow_ledger_spent)] W) : Lib.TabIs Tryd.prog W "winnow/ledger.spent" .i64 [0, 1, 1, 1] :=
  Lib.tabIs_of_head (rest := []) gSpent gSpentType Tryd.underlying70 Tryd.underlying3 cells3 cells70 h
theorem tab_of_laid {W : World} (h : laidMetH Tryd.prog [("winnow/ledger.spent", Rows.laid_winnow_ledger_spent)] W) : Tab W :=
  ⟨(table h).cell gSpent 0 (by decide), (table h).cell gSpent 1 (by decide), (table h).cell gSpent 2 (by decide), (table h).cell gSpent 3 (by decide)⟩
theorem Tab.pos {w : World} (h : Tab w) : 0 < w.heap.size := World.block_lt_of_cell? w ⟨0, 0, none⟩ h.c0
theorem Tab.step {w w' : World} {b : Nat} (h : Tab w) (hb : Below b w w') (h0 : 0 < b) : Tab w' :=
  ⟨(hb.cell h0).trans h.c0, (hb.cell h0).trans h.c1, (hb.cell h0).trans h.c2, (hb.cell h0).trans h.c3⟩
theorem Tab.below {w w' : World} (h : Tab w) (hb : Below w.heap.size w w') : Tab w' := h.step hb h.pos
theorem Tab.drew {w : World} (h : Tab w) : Tab w.drew := ⟨h.c0, h.c1, h.c2, h.c3⟩
theorem Tab.drewN {w : World} {n : Nat} (h : Tab w) : Tab (w.drewN n) := h.below (pw_below_drewN (Below.refl _ _) _)
end Go.Proofs.YtponmfnegdlppaaDoor.P

end
section
/- What a walk knows of its memory, told as a list: boxes (blocks known whole) and rows of the call's own, each in blocks of a colour of its own. -/
namespace Go.Proofs.YtponmfnegdlppaaDoor.P
open Go.RowKit Go.Proofs.YtponmfnegdlppaaDoorW.PrintWords Go.Proofs.YtponmfnegdlppaaDoorW.PrintLast Go.Proofs.YtponmfnegdlppaaDoorW.PrintMore
set_option linter.unusedVariables false

def small (l0 l1 : List S38) : Prop := l0.length ≤ 6000000000000 ∧ l1.length ≤ 6000000000000
instance (l0 l1 : List S38) : Decidable (small l0 l1) := by unfold small; infer_instance
/-- a row of the call's own: its colour, its elements' kind and type, its value, its elements -/
structure It where
  c : Nat
  {α : Type}
  d : Kd α
  e : Nat
  v : Value
  l : List α
/-- a box: its block, its cells, its type -/
structure Bx where
  g : Nat
  cs : Array Value
  t : Nat
/-- The state: no block below w0's has changed; each box lies as told; each row lies in blocks of its colour. -/
def Env (w0 : World) (B : List Bx) (R : List It) (W : World) : Prop :=
  Below w0.heap.size w0 W ∧ (B.map (·.g)).Nodup ∧ (R.map (·.c)).Nodup ∧ ∃ col : Nat → Nat,
    (∀ b ∈ B, W.heap[b.g]? = some (.cells b.cs b.t (0, 0)) ∧ w0.heap.size ≤ b.g ∧ col b.g = 0) ∧
    ∀ r ∈ R, r.c ≠ 0 ∧ Kd.R r.d r.e W w0.heap.size (fun k => col k = r.c) r.v r.l
section
variable {w0 W W' : World} {B B' : List Bx} {R R' : List It}
theorem Env.out (h : Env w0 B R W) : Below w0.heap.size w0 W := h.1
theorem Env.size (h : Env w0 B R W) : w0.heap.size ≤ W.heap.size := h.1.size
theorem Env.start (w : World) : Env w [] [] w := ⟨Below.refl _ _, List.nodup_nil, List.nodup_nil, fun _ => 0, fun _ h => (List.not_mem_nil h).elim, fun _ h => (List.not_mem_nil h).elim⟩
theorem Env.below (h : Env w0 B R W) (hb : Below W.heap.size W W') : Env w0 B R W' := by
  obtain ⟨h1, h2, h3, col, hB, hR⟩ := h
  exact ⟨below_step h1 hb, h2, h3, col, fun b m => ⟨blk_below (hB b m).1 hb, (hB b m).2⟩, fun r m => ⟨(hR r m).1, Kd.R_below (hR r m).2 hb⟩⟩
theorem Env.drew (h : Env w0 B R W) : Env w0 B R W.drew := h.below (below_drew (Below.refl _ _))
theorem Env.drewN (h : Env w0 B R W) (n : Nat) : Env w0 B R (W.drewN n) := h.below (pw_below_drewN (Below.refl _ _) n)
/-- less is known -/
theorem Env.sub (h : Env w0 B R W) (hb : B'.Sublist B) (hr : R'.Sublist R) : Env w0 B' R' W := by
  obtain ⟨h1, h2, h3, col, hB, hR⟩ := h
  exact ⟨h1, h2.sublist (hb.map _), h3.sublist (hr.map _), col, fun b m => hB b (hb.subset m), fun r m => hR r (hr.subset m)⟩
/-- the rows in another order -/
theorem Env.rows (h : Env w0 B R W) (hs : ∀ r ∈ R', r ∈ R) (hn : (R'.map (·.c)).Nodup) : Env w0 B R' W := by
  obtain ⟨h1, h2, h3, col, hB, hR⟩ := h
  exact ⟨h1, h2, hn, col, hB, fun r m => hR r (hs r m)⟩
theorem Env.box (h : Env w0 B R W) {b : Bx} (m : b ∈ B) : W.heap[b.g]? = some (.cells b.cs b.t (0, 0)) := by
  obtain ⟨h1, h2, h3, col, hB, hR⟩ := h
  exact (hB b m).1
theorem Env.boxlt (h : Env w0 B R W) {b : Bx} (m : b ∈ B) : b.g < W.heap.size := blk_lt (h.box m)
theorem Env.cell (h : Env w0 B R W) {b : Bx} (m : b ∈ B) (i : Nat) : W.cell? ⟨b.g, i, none⟩ = b.cs[i]? := blk_cell (h.box m) i
theorem Env.frozen (h : Env w0 B R W) {b : Bx} (m : b ∈ B) (i : Nat) : W.frozen? ⟨b.g, i, none⟩ = false := blk_frozen (h.box m) i
theorem Env.read (h : Env w0 B R W) {α : Type} {c e n cp : Nat} {d : Kd α} {A : Option Addr} {l : List α} (m : (⟨c, d, e, .slice A n cp, l⟩ : It) ∈ R) : n = l.length ∧ n ≤ cp ∧ d.C W A l.length l := by
  obtain ⟨h1, h2, h3, col, hB, hR⟩ := h
  exact Kd.R_reads' (hR _ m).2
theorem Env.slice (h : Env w0 B R W) {α : Type} {c e : Nat} {d : Kd α} {v : Value} {l : List α} (m : (⟨c, d, e, v, l⟩ : It) ∈ R) : ∃ A cp, v = .slice A l.length cp := by
  obtain ⟨h1, h2, h3, col, hB, hR⟩ := h
  exact Kd.R_slice (hR _ m).2
theorem Env.at_ (h : Env w0 B R W) (n i : Nat) {g t : Nat} {cs : Array Value} {v : Value} (hn : B[n]? = some ⟨g, cs, t⟩) (hv : cs[i]? = some v) : W.cell? ⟨g, i, none⟩ = some v :=
  (h.cell (List.mem_of_getElem? hn) i).trans hv
theorem Env.fr_ (h : Env w0 B R W) (n i : Nat) {g t : Nat} {cs : Array Value} (hn : B[n]? = some ⟨g, cs, t⟩) : W.frozen? ⟨g, i, none⟩ = false := h.frozen (List.mem_of_getElem? hn) i
theorem Env.blk_ (h : Env w0 B R W) (n : Nat) {g t : Nat} {cs : Array Value} (hn : B[n]? = some ⟨g, cs, t⟩) : W.heap[g]? = some (.cells cs t (0, 0)) := h.box (List.mem_of_getElem? hn)
theorem Env.lt_ (h : Env w0 B R W) (n : Nat) {g t : Nat} {cs : Array Value} (hn : B[n]? = some ⟨g, cs, t⟩) : g < W.heap.size := h.boxlt (List.mem_of_getElem? hn)
/-- the n-th row -/
theorem Env.row_ (h : Env w0 B R W) (n : Nat) {α : Type} {c e m cp : Nat} {d : Kd α} {A : Option Addr} {l : List α} (hn : R[n]? = some (⟨c, d, e, .slice A m cp, l⟩ : It)) : d.C W A l.length l := (h.read (List.mem_of_getElem? hn)).2.2
theorem Env.cap_ (h : Env w0 B R W) (n : Nat) {α : Type} {c e m cp : Nat} {d : Kd α} {A : Option Addr} {l : List α} (hn : R[n]? = some (⟨c, d, e, .slice A m cp, l⟩ : It)) : m = l.length ∧ m ≤ cp := ⟨(h.read (List.mem_of_getElem? hn)).1, (h.read (List.mem_of_getElem? hn)).2.1⟩
theorem Env.own_ (h : Env w0 B R W) (n : Nat) {α : Type} {c e : Nat} {d : Kd α} {v : Value} {l : List α} (hn : R[n]? = some (⟨c, d, e, v, l⟩ : It)) : ∃ P : Nat → Prop, Kd.R d e W w0.heap.size P v l := by
  obtain ⟨h1, h2, h3, col, hB, hR⟩ := h
  exact ⟨_, (hR _ (List.mem_of_getElem? hn)).2⟩
/-- two rows, told apart -/
theorem Env.own2_ (h : Env w0 B R W) (n m : Nat) {α β : Type} {c c' e e' : Nat} {d : Kd α} {d' : Kd β} {v v' : Value} {l : List α} {l' : List β} (hn : R[n]? = some (⟨c, d, e, v, l⟩ : It)) (hm : R[m]? = some (⟨c', d', e', v', l'⟩ : It)) (hne : c ≠ c') :
    Kd.R d e W w0.heap.size (fun k => some k ≠ v'.ownBlock) v l ∧ Kd.R d' e' W w0.heap.size (fun k => some k ≠ v.ownBlock) v' l' := by
  obtain ⟨h1, h2, h3, col, hB, hR⟩ := h
  have q := (hR _ (List.mem_of_getElem? hn)).2
  have q' := (hR _ (List.mem_of_getElem? hm)).2
  exact ⟨Kd.R_mono q (fun k hk e => hne (hk.symm.trans (q'.1 k e.symm))), Kd.R_mono q' (fun k hk e => hne ((q.1 k e.symm).symm.trans hk))⟩
/-- a box is laid -/
theorem Env.push (h : Env w0 B R W) (cs : Array Value) (t : Nat) : Env w0 (⟨W.heap.size, cs, t⟩ :: B) R (W.alloc (.cells cs t)) := by
  have hb := below_alloc (Below.refl W.heap.size W) (.cells cs t)
  have hlt : ∀ b ∈ B, b.g < W.heap.size := fun b m => h.boxlt m
  obtain ⟨h1, h2, h3, col, hB, hR⟩ := h
  refine ⟨below_step h1 hb, ?_, h3, fun k => if k < W.heap.size then col k else 0, ?_, ?_⟩
  · rw [List.map_cons, List.nodup_cons]
    refine ⟨fun hm => ?_, h2⟩
    obtain ⟨b, m, e⟩ := List.mem_map.1 hm
    have h' := hlt b m
    rw [show b.g = W.heap.size from e] at h'
    omega
  · intro b m
    rcases List.mem_cons.1 m with rfl | m
    · exact ⟨heap_alloc_new W _, h1.size, if_neg (Nat.lt_irrefl _)⟩
    · exact ⟨blk_below (hB b m).1 hb, (hB b m).2.1, by dsimp only; rw [if_pos (hlt b m)]; exact (hB b m).2.2⟩
  · intro r m
    refine ⟨(hR r m).1, Kd.R_below (Kd.R_mono (Kd.R_bound (hR r m).2) (fun k hk => ?_)) hb⟩
    dsimp only
    rw [if_pos hk.2.2.1]
    exact hk.1
/-- the first box is written -/
theorem Env.set {g t : Nat} {cs : Array Value} (h : Env w0 (⟨g, cs, t⟩ :: B) R W) (i : Nat) (u : Value) : Env w0 (⟨g, cs.setIfInBounds i u, t⟩ :: B) R (W.setCell ⟨g, i, none⟩ u) := by
  obtain ⟨h1, h2, h3, col, hB, hR⟩ := h
  have h0 := hB _ (List.mem_cons_self ..)
  refine ⟨h1.setCell h0.2.1 _, h2, h3, col, ?_, ?_⟩
  · intro b m
    rcases List.mem_cons.1 m with rfl | m
    · exact ⟨blk_set h0.1 i u, h0.2⟩
    · have hb := hB b (List.mem_cons_of_mem _ m)
      rw [List.map_cons, List.nodup_cons] at h2
      exact ⟨blk_far hb.1 (p := ⟨g, i, none⟩) (fun e => h2.1 (List.mem_map.2 ⟨b, m, e⟩)) u, hb.2⟩
  · intro r m
    exact ⟨(hR r m).1, Kd.R_far (p := ⟨g, i, none⟩) (hR r m).2 (fun k hk e => (hR r m).1 (by rw [← hk, e]; exact h0.2.2)) u⟩
/-- two rows are new -/
theorem Env.rows2 (h : Env w0 B R W) (hb : Below W.heap.size W W') {α β : Type} {d1 : Kd α} {d2 : Kd β} {e1 e2 : Nat} {v1 v2 : Value} {l1 : List α} {l2 : List β} (hE : d1.E = [])
    (r1 : Kd.R d1 e1 W' W.heap.size (fun k => some k ≠ v2.ownBlock) v1 l1) (r2 : Kd.R d2 e2 W' W.heap.size (fun k => some k ≠ v1.ownBlock) v2 l2)
    (c1 c2 : Nat) (hc : (c1 :: c2 :: R.map (·.c)).Nodup) (n1 : c1 ≠ 0) (n2 : c2 ≠ 0) : Env w0 B (⟨c1, d1, e1, v1, l1⟩ :: ⟨c2, d2, e2, v2, l2⟩ :: R) W' := by
  have hlt : ∀ b ∈ B, b.g < W.heap.size := fun b m => h.boxlt m
  obtain ⟨h1, h2, h3, col, hB, hR⟩ := h
  refine ⟨below_step h1 hb, h2, hc, fun k => if k < W.heap.size then col k else if some k = v1.ownBlock then c1 else c2, ?_, ?_⟩
  · intro b m
    exact ⟨blk_below (hB b m).1 hb, (hB b m).2.1, by dsimp only; rw [if_pos (hlt b m)]; exact (hB b m).2.2⟩
  · intro r m
    rcases List.mem_cons.1 m with rfl | m
    · refine ⟨n1, Kd.R_lower (Kd.R_mono (Kd.R_bound (Kd.R_tight hE r1)) (fun k hk => ?_)) h1.size⟩
      dsimp only
      rw [if_neg (by have := hk.2.1; omega), if_pos hk.1]
    rcases List.mem_cons.1 m with rfl | m
    · refine ⟨n2, Kd.R_lower (Kd.R_mono (Kd.R_bound r2) (fun k hk => ?_)) h1.size⟩
      dsimp only
      rw [if_neg (by have := hk.2.1; omega), if_neg hk.1]
    · refine ⟨(hR r m).1, Kd.R_below (Kd.R_mono (Kd.R_bound (hR r m).2) (fun k hk => ?_)) hb⟩
      dsimp only
      rw [if_pos hk.2.2.1]
      exact hk.1
/-- one row is new -/
theorem Env.row1 (h : Env w0 B R W) (hb : Below W.heap.size W W') {α : Type} {d1 : Kd α} {e1 : Nat} {v1 : Value} {l1 : List α} {P : Nat → Prop} (r1 : Kd.R d1 e1 W' W.heap.size P v1 l1)
    (c1 : Nat) (hc : (c1 :: R.map (·.c)).Nodup) (n1 : c1 ≠ 0) : Env w0 B (⟨c1, d1, e1, v1, l1⟩ :: R) W' := by
  have hlt : ∀ b ∈ B, b.g < W.heap.size := fun b m => h.boxlt m
  obtain ⟨h1, h2, h3, col, hB, hR⟩ := h
  refine ⟨below_step h1 hb, h2, hc, fun k => if k < W.heap.size then col k else c1, ?_, ?_⟩
  · intro b m
    exact ⟨blk_below (hB b m).1 hb, (hB b m).2.1, by dsimp only; rw [if_pos (hlt b m)]; exact (hB b m).2.2⟩
  · intro r m
    rcases List.mem_cons.1 m with rfl | m
    · refine ⟨n1, Kd.R_lower (Kd.R_mono (Kd.R_bound r1) (fun k hk => ?_)) h1.size⟩
      dsimp only
      rw [if_neg (by have := hk.2.1; omega)]
    · refine ⟨(hR r m).1, Kd.R_below (Kd.R_mono (Kd.R_bound (hR r m).2) (fun k hk => ?_)) hb⟩
      dsimp only
      rw [if_pos hk.2.2.1]
      exact hk.1
/-- The first row is written (or grows): what a call is to be given, and what it gives back. -/
theorem Env.write {α : Type} {c e : Nat} {d : Kd α} {v : Value} {l : List α} (h : Env w0 B (⟨c, d, e, v, l⟩ :: R) W) : ∃ P : Nat → Prop, Kd.R d e W w0.heap.size P v l ∧
    ∀ (W' : World) (v' : Value) (l' : List α), Kept W W' P → Below w0.heap.size w0 W' → Kd.R d e W' w0.heap.size (fun k => P k ∨ W.heap.size ≤ k) v' l' → Env w0 B (⟨c, d, e, v', l'⟩ :: R) W' := by
  have hlt : ∀ b ∈ B, b.g < W.heap.size := fun b m => h.boxlt m
  obtain ⟨h1, h2, h3, col, hB, hR⟩ := h
  have h0 := hR _ (List.mem_cons_self ..)
  refine ⟨fun k => col k = c, h0.2, fun W' v' l' hk hb hr => ⟨hb, h2, h3, fun k => if k < W.heap.size then col k else c, ?_, ?_⟩⟩
  · intro b m
    have hb := hB b m
    exact ⟨blk_kept hb.1 hk (fun e => h0.1 (by rw [← e]; exact hb.2.2)), hb.2.1, by dsimp only; rw [if_pos (hlt b m)]; exact hb.2.2⟩
  · intro r m
    rcases List.mem_cons.1 m with rfl | m
    · refine ⟨h0.1, Kd.R_mono hr (fun k hk => ?_)⟩
      dsimp only
      rcases hk with hk | hk
      · split
        · exact hk
        · rfl
      · rw [if_neg (by omega)]
    · have hr := hR r (List.mem_cons_of_mem _ m)
      rw [List.map_cons, List.nodup_cons] at h3
      refine ⟨hr.1, Kd.R_kept (Kd.R_mono (Kd.R_bound hr.2) (ok' := fun k => (if k < W.heap.size then col k else c) = r.c ∧ k < W.heap.size) (fun k hk => ⟨by rw [if_pos hk.2.2.1]; exact hk.1, hk.2.2.1⟩)) hk (fun k hk e => ?_) |> fun q => Kd.R_mono q (fun k hk => hk.1)⟩
      have h4 := hk.1
      rw [if_pos hk.2, e] at h4
      exact h3.1 (List.mem_map.2 ⟨r, m, h4.symm⟩)
/-- the first row is cut -/
theorem Env.take {α : Type} {c e n cp m : Nat} {d : Kd α} {A : Option Addr} {l : List α} (h : Env w0 B (⟨c, d, e, .slice A n cp, l⟩ :: R) W) (hm : m ≤ l.length) : Env w0 B (⟨c, d, e, .slice A m cp, l.take m⟩ :: R) W := by
  obtain ⟨h1, h2, h3, col, hB, hR⟩ := h
  refine ⟨h1, h2, h3, col, hB, fun r q => ?_⟩
  rcases List.mem_cons.1 q with rfl | q
  · have h0 := hR _ (List.mem_cons_self ..)
    exact ⟨h0.1, Kd.R_take h0.2 hm⟩
  · exact hR r (List.mem_cons_of_mem _ q)
/-- the first two rows change places -/
theorem Env.swap {a b : It} (h : Env w0 B (a :: b :: R) W) : Env w0 B (b :: a :: R) W :=
  h.rows (fun r m => by
    rcases List.mem_cons.1 m with rfl | m
    · exact List.mem_cons_of_mem _ (List.mem_cons_self ..)
    rcases List.mem_cons.1 m with rfl | m
    · exact List.mem_cons_self ..
    · exact List.mem_cons_of_mem _ (List.mem_cons_of_mem _ m))
    (((List.Perm.swap b a R).map (·.c)).nodup_iff.1 h.2.2.1)
/-- the second row to the front -/
theorem Env.bswap {a b : Bx} (h : Env w0 (a :: b :: B) R W) : Env w0 (b :: a :: B) R W := by
  obtain ⟨h1, h2, h3, col, hB, hR⟩ := h
  refine ⟨h1, ((List.Perm.swap b a B).map (·.g)).nodup_iff.1 h2, h3, col, fun r m => hB r ?_, hR⟩
  rcases List.mem_cons.1 m with rfl | m
  · exact List.mem_cons_of_mem _ (List.mem_cons_self ..)
  rcases List.mem_cons.1 m with rfl | m
  · exact List.mem_cons_self ..
  · exact List.mem_cons_of_mem _ (List.mem_cons_of_mem _ m)
/-- Two rows are given away. -/
theorem Env.lose2 {a b : It} (h : Env w0 B (a :: b :: R) W) : ∃ P0 P1 : Nat → Prop, Kd.R a.d a.e W w0.heap.size P0 a.v a.l ∧ Kd.R b.d b.e W w0.heap.size P1 b.v b.l ∧ (∀ k, P0 k → ¬ P1 k) ∧
    ∀ W' : World, Kept W W' (fun k => P0 k ∨ P1 k) → Below w0.heap.size w0 W' → Env w0 B R W' := by
  obtain ⟨h1, h2, h3, col, hB, hR⟩ := h
  have ha := hR a (List.mem_cons_self ..)
  have hb := hR b (List.mem_cons_of_mem _ (List.mem_cons_self ..))
  rw [List.map_cons, List.map_cons, List.nodup_cons, List.nodup_cons] at h3
  refine ⟨fun k => col k = a.c, fun k => col k = b.c, ha.2, hb.2, fun k p q => h3.1 ?_, fun W' hk hw => ⟨hw, h2, h3.2.2, col, fun x m => ?_, fun r m => ?_⟩⟩
  · rw [← p, q]
    exact List.mem_cons_self ..
  · have hx := hB x m
    refine ⟨blk_kept hx.1 hk (fun e => ?_), hx.2⟩
    rcases e with e | e
    · exact ha.1 (by rw [← e]; exact hx.2.2)
    · exact hb.1 (by rw [← e]; exact hx.2.2)
  · have hr := hR r (List.mem_cons_of_mem _ (List.mem_cons_of_mem _ m))
    refine ⟨hr.1, Kd.R_kept hr.2 hk (fun k hk e => ?_)⟩
    rcases e with e | e
    · exact h3.1 (List.mem_cons_of_mem _ (List.mem_map.2 ⟨r, m, hk.symm.trans e⟩))
    · exact h3.2.1 (List.mem_map.2 ⟨r, m, hk.symm.trans e⟩)
/-- some of the rows, in an order of their own, by their places -/
theorem Env.pick (h : Env w0 B R W) (p : List Nat) (hn : ((p.filterMap (fun i => R[i]?)).map (·.c)).Nodup) : Env w0 B (p.filterMap (fun i => R[i]?)) W :=
  h.rows (fun r m => by
    obtain ⟨i, _, e⟩ := List.mem_filterMap.1 m
    exact List.mem_of_getElem? e) hn
theorem Env.bare (h : Env w0 B R W) : Env w0 B [] W := h.sub (List.Sublist.refl _) (List.nil_sublist _)
theorem Env.bare1 {b : Bx} (h : Env w0 (b :: B) R W) : Env w0 B [] W := h.sub (.cons _ (List.Sublist.refl _)) (List.nil_sublist _)
theorem Env.lose1 {a : It} (h : Env w0 B (a :: R) W) : Env w0 B R W := h.sub (List.Sublist.refl _) (.cons _ (List.Sublist.refl _))
theorem Env.tab (h : Env w0 B R W) (hT : Tab w0) : Tab W := hT.below h.1
theorem Env.came (h : Env w0 B R W) {α : Type} {d : Kd α} {A : Option Addr} {n : Nat} {l : List α} (hC : d.C w0 A n l) : d.C W A n l := Kd.C_below hC h.1
end
end Go.Proofs.YtponmfnegdlppaaDoor.P

end
section
/- roomy: the states, with marks behind them in the same memory. The printed walk, its promise made sharper (wip/ledgerd/mkroomy.py). -/
namespace Go.Proofs.YtponmfnegdlppaaDoor.P
open Go.RowKit Go.Proofs.YtponmfnegdlppaaDoorW.PrintWords Go.Proofs.YtponmfnegdlppaaDoorW.PrintLast Go.Proofs.YtponmfnegdlppaaDoorW.PrintMore
attribute [local go_sem] max2_int min2_int max_two min_two max_three min_three max_four min_four
set_option linter.unusedVariables false
set_option linter.unusedSimpArgs false
def roomyW.l0 : Nat → List (S38) → List (S38) → Int → Option ((List (S38)))
  | 0, _, _, _ => none
  | k + 1, x0, x3, x4 => if x4 < (x3.length : Int) then (if 0 ≤ x4 then ((some (x3.set (x4 : Int).toNat (⟨7001, 5, 0⟩ : S38) : List (S38))).bind fun y104 => (if x4 < (x0.length : Int) then (roomyW.l0 k x0 (y104.set (x4 : Int).toNat (⟨(rd_T38 x0 x4).f0, (rd_T38 x0 x4).f1, (rd_T38 x0 x4).f2⟩ : S38)) (wrap64 (x4 + 1))) else (roomyW.l0 k x0 y104 (wrap64 (x4 + 1))))) else (none)) else (some x3)
def roomyW.f (k : Nat) (l0 : List (S38)) : Option ((List (S38))) := if 0 ≤ (wrap64 ((l0.length : Int) + 64)) then (if (wrap64 ((l0.length : Int) + 64) : Int).toNat ≤ 11728124029610 then (roomyW.l0 k l0 (List.replicate (wrap64 ((l0.length : Int) + 64) : Int).toNat z38) 0) else (none)) else (none)

theorem roomyW_le (l r : List S38) : ∀ (k : Nat) (x3 : List S38) (i : Int), roomyW.l0 k l x3 i = some r → (x3.length : Int) = (r.length : Int) ∧ (l.length ≤ r.length ↔ l.length ≤ x3.length)
  | 0 => fun x3 i h => by simp [roomyW.l0] at h
  | k + 1 => fun x3 i h => by
    rw [roomyW.l0] at h
    by_cases h1 : i < (x3.length : Int)
    · rw [if_pos h1] at h
      by_cases h2 : 0 ≤ i
      · rw [if_pos h2, Option.bind_some] at h
        by_cases h3 : i < (l.length : Int)
        · rw [if_pos h3] at h
          have := roomyW_le l r k _ _ h
          simpa using this
        · rw [if_neg h3] at h
          have := roomyW_le l r k _ _ h
          simpa using this
      · rw [if_neg h2] at h; cases h
    · rw [if_neg h1] at h
      obtain rfl := Option.some.inj h
      exact ⟨rfl, Iff.rfl⟩
set_option maxHeartbeats 8000000 in
set_option maxRecDepth 100000 in
theorem roomy_sharp (k : Nat) (A0 : Option Addr) (c0 : Nat) (l0 : List (S38)) (r : List (S38)) (w : World) (hr0 : Kd.C k38 w A0 l0.length l0) (hc0 : l0.length ≤ c0) (h : roomyW.f k l0 = some r) (hln_ : l0.length ≤ r.length) :
    Calls Tryd.prog 39 #[.slice A0 l0.length c0] w fun e w' => ∃ A c, e = .returned (.slice A l0.length c) ∧ r.length ≤ c ∧ Kd.R k38 38 w' w.heap.size (fun _ => True) (.slice A r.length c) r ∧ Below w.heap.size w w' := by
  have hu38 := Tryd.underlying38
  have HR0 := Aside0.mk hr0
  have HC0 := Aside0.mk hc0
  clear hr0 hc0
  have HLE := Aside0.mk (roomyW_le l0 r)
  have HLN := Aside0.mk hln_
  clear hln_
  have HB := Aside0.mk (Below.refl w.heap.size w)
  have H : (if 0 ≤ (wrap64 ((l0.length : Int) + 64)) then (if (wrap64 ((l0.length : Int) + 64) : Int).toNat ≤ 11728124029610 then (roomyW.l0 k l0 (List.replicate (wrap64 ((l0.length : Int) + 64) : Int).toNat z38) 0) else (none)) else (none)) = some r := h
  clear h
  obtain ⟨ji2, hji2⟩ : ∃ j_ : Int, (wrap64 ((l0.length : Int) + 64)) = j_ := ⟨_, rfl⟩
  replace H : (if 0 ≤ (ji2) then (if (ji2 : Int).toNat ≤ 11728124029610 then (roomyW.l0 k l0 (List.replicate (ji2 : Int).toNat z38) 0) else (none)) else (none)) = some r := by first | (rw [hji2] at H; exact H) | (simp only [hji2] at H ⊢; exact H)
  have hji2w : (IntKind.i64.wrap ((l0.length : Int) + 64)) = ji2 := (i64_w _).trans hji2
  by_cases c3 : 0 ≤ (ji2)
  · rw [if_pos c3] at H
    have c3b0 := eq_true c3
    have c3b1 : decide (0 ≤ (ji2)) = true := decide_eq_true c3
    clear c3
    by_cases c4 : (ji2 : Int).toNat ≤ 11728124029610
    · rw [if_pos c4] at H
      have c4b0 := eq_true c4
      have c4b1 : decide ((ji2 : Int).toNat ≤ 11728124029610) = true := decide_eq_true c4
      clear c4
      obtain ⟨y101, hy101⟩ : ∃ y_ : List (S38), y_ = (List.replicate (ji2 : Int).toNat z38) := ⟨_, rfl⟩
      replace H : (roomyW.l0 k l0 y101 0) = some r := by first | (rw [hy101]; with_reducible exact H) | (have H2_ := (Option.bind_some _ _).symm.trans H; rw [hy101]; with_reducible exact H2_) | (have H2_ := (Option.bind_some _ _).symm.trans H; with_reducible exact H2_) | with_reducible exact H | (rw [hy101]; exact H) | exact H
      have Ny101 := Aside0.mk hy101
      clear hy101
      have H' := Aside0.mk H
      clear H
      go_enter Tryd.func39, Tryd.ntmps39
      go_wp2_with (first | ((with_reducible refine gate_dst (N := 8) rfl ?_); refine Kd.R_make k38 _ 38 rfl (N := 8) rfl 22 _ _ rfl ji2 rfl rfl Tryd.underlying22 (.agg #[(.int .i64 0), (.int .i64 0), (.int .i64 0)]) 24 info38 rfl (by decide) (by omega) z38 (ok := fun _ => True) (okp := fun _ => True) (k38_mkM _ _ _ z38 ) (fun _ hk => hk) trivial (of_decide_eq_true (by first | (with_reducible assumption) | assumption)) (Nat.le_trans (Nat.mul_le_mul_right _ (of_decide_eq_true (by first | (with_reducible assumption) | assumption) : ji2.toNat ≤ 11728124029610)) (by omega)) (Below.refl _ _) (Nat.le_refl _) ?_; intro v102 w5 ho6 hb hg_ hnew_; clear hg_ hnew_; (first | rw [← Ny101.out] at ho6 | (simp only [Int.reduceToNat] at ho6; rw [← Ny101.out] at ho6)); have n0_ := Aside0.mk (Kd.R_lower ho6 (below_size (by repeat (first | (with_reducible first | exact HB.out | apply below_alloc | apply pw_below_drewN | apply below_drew1) | exact HB.out)))); have n1_ := Aside0.mk (below_step (by repeat (first | (with_reducible first | exact HB.out | apply below_alloc | apply pw_below_drewN | apply below_drew1) | exact HB.out)) hb); clear HB; have HO103 := n0_; have HB := n1_; clear n0_ n1_; clear hb ho6))
      go_loopg [4] k (fun kq v4 w' => ∃ (x3_1 : List (S38)) (x4_1 : Int), v4 = .int .i64 x4_1 ∧ Aside0 (roomyW.l0 kq l0 x3_1 x4_1 = some r) ∧ Aside0 (kq ≤ k) ∧ Aside0 (Kd.R k38 38 w' w.heap.size (fun _ => True) v102 x3_1) ∧ Aside0 (Below w.heap.size w w'))
      case atStart => exact ⟨(y101), (0), (by first | rfl | (simp; done) | (simp [*]; done)), H', ⟨Nat.le_refl _⟩, ⟨by (with_reducible repeat (first | apply Kd.R_alloc | apply Kd.R_drewN | apply Kd.R_drew)); exact HO103.out⟩, ⟨by repeat (first | (with_reducible first | exact HB.out | apply below_alloc | apply pw_below_drewN | apply below_drew1) | exact HB.out)⟩⟩
      case round =>
        clear H'
        try clear p2
        try clear c3
        try clear c3b0
        try clear c3b1
        try clear c4
        try clear c4b0
        try clear c4b1
        try clear p6
        obtain ⟨x3_1, x4_1, rfl, HA, HK1, HO_3, HB⟩ := hrel
        cases gk with
        | zero => exact absurd HA.out (by simp [roomyW.l0])
        | succ k1 =>
          have H := HA.out
          have HA2 := HA
          clear HA
          simp only [roomyW.l0] at H
          by_cases c7 : x4_1 < (x3_1.length : Int)
          · rw [if_pos c7] at H
            have c7b0 : decide (x4_1 < (x3_1.length : Int)) = true := decide_eq_true c7
            clear c7
            by_cases c8 : 0 ≤ x4_1
            · rw [if_pos c8] at H
              have c8b0 : decide (0 ≤ x4_1) = true := decide_eq_true c8
              clear c8
              obtain ⟨y104, hy104⟩ : ∃ y_ : List (S38), y_ = (x3_1.set (x4_1 : Int).toNat (⟨7001, 5, 0⟩ : S38)) := ⟨_, rfl⟩
              replace H : (if x4_1 < (l0.length : Int) then (roomyW.l0 k1 l0 (y104.set (x4_1 : Int).toNat (⟨(rd_T38 l0 x4_1).f0, (rd_T38 l0 x4_1).f1, (rd_T38 l0 x4_1).f2⟩ : S38)) (wrap64 (x4_1 + 1))) else (roomyW.l0 k1 l0 y104 (wrap64 (x4_1 + 1)))) = some r := by first | (rw [hy104]; with_reducible exact H) | (have H2_ := (Option.bind_some _ _).symm.trans H; rw [hy104]; with_reducible exact H2_) | (have H2_ := (Option.bind_some _ _).symm.trans H; with_reducible exact H2_) | with_reducible exact H | (rw [hy104]; exact H) | exact H
              have Ny104 := Aside0.mk hy104
              clear hy104
              by_cases c10 : x4_1 < (l0.length : Int)
              · rw [if_pos c10] at H
                have c10b0 : decide (x4_1 < (l0.length : Int)) = true := decide_eq_true c10
                clear c10
                obtain ⟨y106, hy106⟩ : ∃ y_ : List (S38), y_ = (y104.set (x4_1 : Int).toNat (⟨(rd_T38 l0 x4_1).f0, (rd_T38 l0 x4_1).f1, (rd_T38 l0 x4_1).f2⟩ : S38)) := ⟨_, rfl⟩
                replace H : (roomyW.l0 k1 l0 y106 (wrap64 (x4_1 + 1))) = some r := by first | (rw [hy106]; with_reducible exact H) | (have H2_ := (Option.bind_some _ _).symm.trans H; rw [hy106]; with_reducible exact H2_) | (have H2_ := (Option.bind_some _ _).symm.trans H; with_reducible exact H2_) | with_reducible exact H | (rw [hy106]; exact H) | exact H
                have Ny106 := Aside0.mk hy106
                clear hy106
                have H' := Aside0.mk H
                clear H
                obtain ⟨Ao12, co12, eo12⟩ := Kd.R_slice HO_3.out
                subst eo12
                have p9 : 0 ≤ (x4_1 : Int) := of_decide_eq_true (by first | (with_reducible assumption) | assumption)
                have q9 : (x4_1 : Int) < ((x3_1.length : Int) : Int) := of_decide_eq_true (by first | (with_reducible assumption) | assumption)
                obtain ⟨go9, co9, eo9, gb9, gl9, cl9, HG9⟩ := Kd.R_form HO_3.out (by omega)
                (first | cases eo9 | (injection eo9 with ea_ en_ ec_; (first | subst ea_ | (injection ea_ with ea_; subst ea_)); subst ec_; clear en_))
                have GB9 := Aside0.mk gb9
                have GG9 := Aside0.mk HG9
                clear gb9 gl9 HG9
                obtain ⟨ce9, hcl9, hM9, hcc9, hfr9⟩ := Kd.R_elem HO_3.out z38 (x4_1 : Int) p9 q9
                obtain rfl := k38_openM hM9
                have hx9_0 : wr.cell? ⟨go9, (x4_1 : Int).toNat * 3, none⟩ = some (.int .i64 ((rd_T38 x3_1 x4_1).f0)) := hcc9 0 _ rfl
                have hx9_1 : wr.cell? ⟨go9, (x4_1 : Int).toNat * 3 + 1, none⟩ = some (.int .i64 ((rd_T38 x3_1 x4_1).f1)) := hcc9 1 _ rfl
                have hx9_2 : wr.cell? ⟨go9, (x4_1 : Int).toNat * 3 + 2, none⟩ = some (.int .i64 ((rd_T38 x3_1 x4_1).f2)) := hcc9 2 _ rfl
                have hf9_0 : wr.frozen? ⟨go9, (x4_1 : Int).toNat * 3, none⟩ = false := hfr9 0
                have hf9_1 : wr.frozen? ⟨go9, (x4_1 : Int).toNat * 3 + 1, none⟩ = false := hfr9 1
                have hf9_2 : wr.frozen? ⟨go9, (x4_1 : Int).toNat * 3 + 2, none⟩ = false := hfr9 2
                clear hcl9 hcc9 hfr9 hM9
                replace p9 := eq_true p9
                replace q9 := eq_true q9
                have HX13 := Aside0.mk (show Kd.R k38 38 wr w.heap.size (fun _ => True) (.slice (some ⟨go9, 0, none⟩) x3_1.length co12) x3_1 from (by (with_reducible repeat (first | apply Kd.R_alloc | apply Kd.R_drewN | apply Kd.R_drew)); exact HO_3.out))
                obtain ⟨ce13, hcl13, hM13, hcc13, hfr13⟩ := Kd.R_elem HX13.out z38 (x4_1 : Int) (of_decide_eq_true (by first | (with_reducible assumption) | assumption)) (by have h_ : (x4_1 : Int) < ((x3_1.length : Int) : Int) := of_decide_eq_true (by first | (with_reducible assumption) | assumption); first | exact h_ | (have e_ := (Kd.R_reads' HO_3.out).1; omega) | simpa using h_)
                obtain rfl := k38_openM hM13
                have HP13 := Kd.R_seg HX13.out (x4_1 : Int) (of_decide_eq_true (by first | (with_reducible assumption) | assumption)) (by have h_ : (x4_1 : Int) < ((x3_1.length : Int) : Int) := of_decide_eq_true (by first | (with_reducible assumption) | assumption); first | exact h_ | (have e_ := (Kd.R_reads' HO_3.out).1; omega) | simpa using h_) (seg := [.int .i64 7001, .int .i64 5, .int .i64 0]) (j := 0) hcl13 hcc13 (show 3 ≤ 3 from by decide) (x' := (⟨7001, 5, 0⟩ : S38)) (k38_mkM _ _ _ (⟨7001, 5, 0⟩ : S38) ) (fun _ hk => hk)
                have hx13_0 := hcc13 0 _ rfl
                (try simp only [show (k38).sz = 3 from rfl, Nat.mul_one, Nat.add_zero] at hx13_0)
                have hf13_0 := hfr13 0
                (try simp only [show (k38).sz = 3 from rfl, Nat.mul_one, Nat.add_zero] at hf13_0)
                have hx13_1 := hcc13 1 _ rfl
                (try simp only [show (k38).sz = 3 from rfl, Nat.mul_one, Nat.add_zero] at hx13_1)
                have hf13_1 := hfr13 1
                (try simp only [show (k38).sz = 3 from rfl, Nat.mul_one, Nat.add_zero] at hf13_1)
                have hx13_2 := hcc13 2 _ rfl
                (try simp only [show (k38).sz = 3 from rfl, Nat.mul_one, Nat.add_zero] at hx13_2)
                have hf13_2 := hfr13 2
                (try simp only [show (k38).sz = 3 from rfl, Nat.mul_one, Nat.add_zero] at hf13_2)
                clear hcl13 hcc13 hfr13 hM13
                go_wp2_with (first | ((with_reducible refine gate_store (t := 38) (p := 18) rfl ?_); refine store_event (t := 38) (p := 18) (v := ?vo_w14) (w1 := (((wr.setCell ⟨go9, (x4_1 : Int).toNat * 3, none⟩ (.int .i64 7001)).setCell ⟨go9, (x4_1 : Int).toNat * 3 + 1, none⟩ (.int .i64 5)).setCell ⟨go9, (x4_1 : Int).toNat * 3 + 2, none⟩ (.int .i64 0))) ?hg ?ho ?hn ?hr ?_; (case ho => rfl); (case hg => rfl); (case hn => rfl); (case hr => first | (go_simp; done) | (go_simp; rfl)); intro w14 hw; have hg : wr.grownBy w14 (some go9) := (by rw [hw]; exact HP13.2); have hp_ : Kd.R k38 38 w14 w.heap.size (fun _ => True) (.slice (some ⟨go9, 0, none⟩) x3_1.length co12) y104 := (by rw [hw, Ny104.out]; exact HP13.1); clear HP13; have n0_ := Aside0.mk (hp_); have n1_ := Aside0.mk ((by rw [hw]; exact below_set (below_set (below_set (HB.out) GB9.out) GB9.out) GB9.out : Below w.heap.size w w14)); clear HO_3; clear HB; have HO_3 := n0_; have HB := n1_; clear n0_ n1_; clear hg hw hp_; have p105 : 0 ≤ (x4_1 : Int) := of_decide_eq_true (by first | (with_reducible assumption) | assumption); have q105 : x4_1 < (l0.length : Int) := of_decide_eq_true (by first | (with_reducible assumption) | assumption); obtain ⟨ad105, e105, hx105_0, hx105_1, hx105_2⟩ := at_T38 HR0.out x4_1 p105 q105; cases e105; replace hx105_0 := (HB.out.cell (World.block_lt_of_cell? w _ hx105_0)).trans hx105_0; replace hx105_1 := (HB.out.cell (World.block_lt_of_cell? w _ hx105_1)).trans hx105_1; replace hx105_2 := (HB.out.cell (World.block_lt_of_cell? w _ hx105_2)).trans hx105_2; replace p105 := eq_true p105; replace q105 := eq_true q105; have p11 : 0 ≤ (x4_1 : Int) := of_decide_eq_true (by first | (with_reducible assumption) | assumption); have q11 : (x4_1 : Int) < ((x3_1.length : Int) : Int) := of_decide_eq_true (by first | (with_reducible assumption) | assumption); obtain ⟨ce11, hcl11, hM11, hcc11, hfr11⟩ := Kd.R_elem HO_3.out z38 (x4_1 : Int) p11 q11; obtain rfl := k38_openM hM11; have hx11_0 : w14.cell? ⟨go9, (x4_1 : Int).toNat * 3, none⟩ = some (.int .i64 ((rd_T38 y104 x4_1).f0)) := hcc11 0 _ rfl; have hx11_1 : w14.cell? ⟨go9, (x4_1 : Int).toNat * 3 + 1, none⟩ = some (.int .i64 ((rd_T38 y104 x4_1).f1)) := hcc11 1 _ rfl; have hx11_2 : w14.cell? ⟨go9, (x4_1 : Int).toNat * 3 + 2, none⟩ = some (.int .i64 ((rd_T38 y104 x4_1).f2)) := hcc11 2 _ rfl; have hf11_0 : w14.frozen? ⟨go9, (x4_1 : Int).toNat * 3, none⟩ = false := hfr11 0; have hf11_1 : w14.frozen? ⟨go9, (x4_1 : Int).toNat * 3 + 1, none⟩ = false := hfr11 1; have hf11_2 : w14.frozen? ⟨go9, (x4_1 : Int).toNat * 3 + 2, none⟩ = false := hfr11 2; clear hcl11 hcc11 hfr11 hM11; replace p11 := eq_true p11; replace q11 := eq_true q11; have HX15 := Aside0.mk (show Kd.R k38 38 w14 w.heap.size (fun _ => True) (.slice (some ⟨go9, 0, none⟩) x3_1.length co12) y104 from (by (with_reducible repeat (first | apply Kd.R_alloc | apply Kd.R_drewN | apply Kd.R_drew)); exact HO_3.out)); obtain ⟨ce15, hcl15, hM15, hcc15, hfr15⟩ := Kd.R_elem HX15.out z38 (x4_1 : Int) (of_decide_eq_true (by first | (with_reducible assumption) | assumption)) (by have h_ : (x4_1 : Int) < ((x3_1.length : Int) : Int) := of_decide_eq_true (by first | (with_reducible assumption) | assumption); first | exact h_ | (have e_ := (Kd.R_reads' HO_3.out).1; omega) | simpa using h_); obtain rfl := k38_openM hM15; have HP15 := Kd.R_seg HX15.out (x4_1 : Int) (of_decide_eq_true (by first | (with_reducible assumption) | assumption)) (by have h_ : (x4_1 : Int) < ((x3_1.length : Int) : Int) := of_decide_eq_true (by first | (with_reducible assumption) | assumption); first | exact h_ | (have e_ := (Kd.R_reads' HO_3.out).1; omega) | simpa using h_) (seg := [.int .i64 ((rd_T38 l0 x4_1).f0), .int .i64 ((rd_T38 l0 x4_1).f1), .int .i64 ((rd_T38 l0 x4_1).f2)]) (j := 0) hcl15 hcc15 (show 3 ≤ 3 from by decide) (x' := (⟨(rd_T38 l0 x4_1).f0, (rd_T38 l0 x4_1).f1, (rd_T38 l0 x4_1).f2⟩ : S38)) (k38_mkM _ _ _ (⟨(rd_T38 l0 x4_1).f0, (rd_T38 l0 x4_1).f1, (rd_T38 l0 x4_1).f2⟩ : S38) ) (fun _ hk => hk); have hx15_0 := hcc15 0 _ rfl; (try simp only [show (k38).sz = 3 from rfl, Nat.mul_one, Nat.add_zero] at hx15_0); have hf15_0 := hfr15 0; (try simp only [show (k38).sz = 3 from rfl, Nat.mul_one, Nat.add_zero] at hf15_0); have hx15_1 := hcc15 1 _ rfl; (try simp only [show (k38).sz = 3 from rfl, Nat.mul_one, Nat.add_zero] at hx15_1); have hf15_1 := hfr15 1; (try simp only [show (k38).sz = 3 from rfl, Nat.mul_one, Nat.add_zero] at hf15_1); have hx15_2 := hcc15 2 _ rfl; (try simp only [show (k38).sz = 3 from rfl, Nat.mul_one, Nat.add_zero] at hx15_2); have hf15_2 := hfr15 2; (try simp only [show (k38).sz = 3 from rfl, Nat.mul_one, Nat.add_zero] at hf15_2); clear hcl15 hcc15 hfr15 hM15) | ((with_reducible refine gate_store (t := 38) (p := 29) rfl ?_); refine store_event (t := 38) (p := 29) (v := ?vo_w16) (w1 := (((w14.setCell ⟨go9, (x4_1 : Int).toNat * 3, none⟩ (.int .i64 ((rd_T38 l0 x4_1).f0))).setCell ⟨go9, (x4_1 : Int).toNat * 3 + 1, none⟩ (.int .i64 ((rd_T38 l0 x4_1).f1))).setCell ⟨go9, (x4_1 : Int).toNat * 3 + 2, none⟩ (.int .i64 ((rd_T38 l0 x4_1).f2)))) ?hg ?ho ?hn ?hr ?_; (case ho => rfl); (case hg => rfl); (case hn => rfl); (case hr => first | (go_simp; done) | (go_simp; rfl)); intro w16 hw; have hg : w14.grownBy w16 (some go9) := (by rw [hw]; exact HP15.2); have hp_ : Kd.R k38 38 w16 w.heap.size (fun _ => True) (.slice (some ⟨go9, 0, none⟩) x3_1.length co12) y106 := (by rw [hw, Ny106.out]; exact HP15.1); clear HP15; have n0_ := Aside0.mk (hp_); have n1_ := Aside0.mk ((by rw [hw]; exact below_set (below_set (below_set (HB.out) GB9.out) GB9.out) GB9.out : Below w.heap.size w w16)); clear HO_3; clear HB; have HO_3 := n0_; have HB := n1_; clear n0_ n1_; clear hg hw hp_))
                go_roundg k1
                case measure => have := HK1.out; omega
                case rel => exact ⟨(y106), (wrap64 (x4_1 + 1)), (by first | rfl | (simp; done) | (simp [*]; done)), H', ⟨by have := HK1.out; omega⟩, ⟨by (with_reducible repeat (first | apply Kd.R_alloc | apply Kd.R_drewN | apply Kd.R_drew)); exact HO_3.out⟩, ⟨by repeat (first | (with_reducible first | exact HB.out | apply below_alloc | apply pw_below_drewN | apply below_drew1) | exact HB.out)⟩⟩
              · rw [if_neg c10] at H
                have c10b0 : decide (x4_1 < (l0.length : Int)) = false := decide_eq_false c10
                clear c10
                have H' := Aside0.mk H
                clear H
                obtain ⟨Ao17, co17, eo17⟩ := Kd.R_slice HO_3.out
                subst eo17
                have p9 : 0 ≤ (x4_1 : Int) := of_decide_eq_true (by first | (with_reducible assumption) | assumption)
                have q9 : (x4_1 : Int) < ((x3_1.length : Int) : Int) := of_decide_eq_true (by first | (with_reducible assumption) | assumption)
                obtain ⟨go9, co9, eo9, gb9, gl9, cl9, HG9⟩ := Kd.R_form HO_3.out (by omega)
                (first | cases eo9 | (injection eo9 with ea_ en_ ec_; (first | subst ea_ | (injection ea_ with ea_; subst ea_)); subst ec_; clear en_))
                have GB9 := Aside0.mk gb9
                have GG9 := Aside0.mk HG9
                clear gb9 gl9 HG9
                obtain ⟨ce9, hcl9, hM9, hcc9, hfr9⟩ := Kd.R_elem HO_3.out z38 (x4_1 : Int) p9 q9
                obtain rfl := k38_openM hM9
                have hx9_0 : wr.cell? ⟨go9, (x4_1 : Int).toNat * 3, none⟩ = some (.int .i64 ((rd_T38 x3_1 x4_1).f0)) := hcc9 0 _ rfl
                have hx9_1 : wr.cell? ⟨go9, (x4_1 : Int).toNat * 3 + 1, none⟩ = some (.int .i64 ((rd_T38 x3_1 x4_1).f1)) := hcc9 1 _ rfl
                have hx9_2 : wr.cell? ⟨go9, (x4_1 : Int).toNat * 3 + 2, none⟩ = some (.int .i64 ((rd_T38 x3_1 x4_1).f2)) := hcc9 2 _ rfl
                have hf9_0 : wr.frozen? ⟨go9, (x4_1 : Int).toNat * 3, none⟩ = false := hfr9 0
                have hf9_1 : wr.frozen? ⟨go9, (x4_1 : Int).toNat * 3 + 1, none⟩ = false := hfr9 1
                have hf9_2 : wr.frozen? ⟨go9, (x4_1 : Int).toNat * 3 + 2, none⟩ = false := hfr9 2
                clear hcl9 hcc9 hfr9 hM9
                replace p9 := eq_true p9
                replace q9 := eq_true q9
                have HX18 := Aside0.mk (show Kd.R k38 38 wr w.heap.size (fun _ => True) (.slice (some ⟨go9, 0, none⟩) x3_1.length co17) x3_1 from (by (with_reducible repeat (first | apply Kd.R_alloc | apply Kd.R_drewN | apply Kd.R_drew)); exact HO_3.out))
                obtain ⟨ce18, hcl18, hM18, hcc18, hfr18⟩ := Kd.R_elem HX18.out z38 (x4_1 : Int) (of_decide_eq_true (by first | (with_reducible assumption) | assumption)) (by have h_ : (x4_1 : Int) < ((x3_1.length : Int) : Int) := of_decide_eq_true (by first | (with_reducible assumption) | assumption); first | exact h_ | (have e_ := (Kd.R_reads' HO_3.out).1; omega) | simpa using h_)
                obtain rfl := k38_openM hM18
                have HP18 := Kd.R_seg HX18.out (x4_1 : Int) (of_decide_eq_true (by first | (with_reducible assumption) | assumption)) (by have h_ : (x4_1 : Int) < ((x3_1.length : Int) : Int) := of_decide_eq_true (by first | (with_reducible assumption) | assumption); first | exact h_ | (have e_ := (Kd.R_reads' HO_3.out).1; omega) | simpa using h_) (seg := [.int .i64 7001, .int .i64 5, .int .i64 0]) (j := 0) hcl18 hcc18 (show 3 ≤ 3 from by decide) (x' := (⟨7001, 5, 0⟩ : S38)) (k38_mkM _ _ _ (⟨7001, 5, 0⟩ : S38) ) (fun _ hk => hk)
                have hx18_0 := hcc18 0 _ rfl
                (try simp only [show (k38).sz = 3 from rfl, Nat.mul_one, Nat.add_zero] at hx18_0)
                have hf18_0 := hfr18 0
                (try simp only [show (k38).sz = 3 from rfl, Nat.mul_one, Nat.add_zero] at hf18_0)
                have hx18_1 := hcc18 1 _ rfl
                (try simp only [show (k38).sz = 3 from rfl, Nat.mul_one, Nat.add_zero] at hx18_1)
                have hf18_1 := hfr18 1
                (try simp only [show (k38).sz = 3 from rfl, Nat.mul_one, Nat.add_zero] at hf18_1)
                have hx18_2 := hcc18 2 _ rfl
                (try simp only [show (k38).sz = 3 from rfl, Nat.mul_one, Nat.add_zero] at hx18_2)
                have hf18_2 := hfr18 2
                (try simp only [show (k38).sz = 3 from rfl, Nat.mul_one, Nat.add_zero] at hf18_2)
                clear hcl18 hcc18 hfr18 hM18
                go_wp2_with (first | ((with_reducible refine gate_store (t := 38) (p := 18) rfl ?_); refine store_event (t := 38) (p := 18) (v := ?vo_w19) (w1 := (((wr.setCell ⟨go9, (x4_1 : Int).toNat * 3, none⟩ (.int .i64 7001)).setCell ⟨go9, (x4_1 : Int).toNat * 3 + 1, none⟩ (.int .i64 5)).setCell ⟨go9, (x4_1 : Int).toNat * 3 + 2, none⟩ (.int .i64 0))) ?hg ?ho ?hn ?hr ?_; (case ho => rfl); (case hg => rfl); (case hn => rfl); (case hr => first | (go_simp; done) | (go_simp; rfl)); intro w19 hw; have hg : wr.grownBy w19 (some go9) := (by rw [hw]; exact HP18.2); have hp_ : Kd.R k38 38 w19 w.heap.size (fun _ => True) (.slice (some ⟨go9, 0, none⟩) x3_1.length co17) y104 := (by rw [hw, Ny104.out]; exact HP18.1); clear HP18; have n0_ := Aside0.mk (hp_); have n1_ := Aside0.mk ((by rw [hw]; exact below_set (below_set (below_set (HB.out) GB9.out) GB9.out) GB9.out : Below w.heap.size w w19)); clear HO_3; clear HB; have HO_3 := n0_; have HB := n1_; clear n0_ n1_; clear hg hw hp_))
                go_roundg k1
                case measure => have := HK1.out; omega
                case rel => exact ⟨(y104), (wrap64 (x4_1 + 1)), (by first | rfl | (simp; done) | (simp [*]; done)), H', ⟨by have := HK1.out; omega⟩, ⟨by (with_reducible repeat (first | apply Kd.R_alloc | apply Kd.R_drewN | apply Kd.R_drew)); exact HO_3.out⟩, ⟨by repeat (first | (with_reducible first | exact HB.out | apply below_alloc | apply pw_below_drewN | apply below_drew1) | exact HB.out)⟩⟩
            · rw [if_neg c8] at H
              exact absurd H (by simp)
          · rw [if_neg c7] at H
            have c7b0 : decide (x4_1 < (x3_1.length : Int)) = false := decide_eq_false c7
            clear c7
            obtain rfl := Option.some.inj H
            obtain ⟨Ao22, co22, eo22⟩ := Kd.R_slice HO_3.out
            subst eo22
            have q23 : ((l0.length : Int) : Int) ≤ ((x3_1.length : Int) : Int) := by have h1_ := (HLE.out _ _ _ HA2.out).1; have h2_ := HLN.out; omega
            obtain ⟨i023, hi023, _, hsz23, _⟩ := info_parts info38
            have hcut23 := cut_to (P := Tryd.prog) 22 38 .i64 Tryd.underlying22 hi023 Ao22 x3_1.length co22 (l0.length : Int) (by omega) q23 (Kd.R_reads' HO_3.out).2.1
            have HC23 := Aside0.mk (Kd.R_reads' HO_3.out).2.1
            rw [Int.toNat_natCast] at hcut23
            clear hi023 hsz23
            replace q23 := eq_true q23
            have hz23 : ((0 : Int) ≤ (l0.length : Int)) = True := eq_true (by omega)
            go_wp2
            go_ret
            exact ⟨Ao22, co22, by first | rfl | (simp; done), HC23.out, by (with_reducible repeat (first | apply Kd.R_alloc | apply Kd.R_drewN | apply Kd.R_drew)); exact HO_3.out, by repeat (first | (with_reducible first | exact HB.out | apply below_alloc | apply pw_below_drewN | apply below_drew1) | exact HB.out)⟩
    · rw [if_neg c4] at H
      exact absurd H (by simp)
  · rw [if_neg c3] at H
    exact absurd H (by simp)

end Go.Proofs.YtponmfnegdlppaaDoor.P

end
section
/- The ledger's answers in plain lists. -/
namespace Go.Proofs.YtponmfnegdlppaaDoor.P
open Go.RowKit Go.Proofs.YtponmfnegdlppaaDoorW.PrintWords Go.Proofs.YtponmfnegdlppaaDoorW.PrintLast Go.Proofs.YtponmfnegdlppaaDoorW.PrintMore
set_option linter.unusedVariables false

/-- may a task's state be? -/
def goodP (t : Int) (held : Bool) (s : S38) : Bool :=
  !(decide (s.f0 < 0)) && (!(decide (4 ≤ s.f0)) && ((held || !(decide (s.f0 = 2))) && (!(decide (s.f2 < 0)) && (!(decide (t < s.f2)) && (decide (s.f1 = s.f2 + (if s.f0 = 0 then 0 else 1)) && (!(decide (s.f2 = t)) || decide (s.f0 = 0)))))))
def scanP (t : Int) (held : Bool) : List S38 → Int → Option Int
  | [], f => some f
  | s :: l, f => if goodP t held s = true then scanP t held l (if s.f2 = t then f + 1 else f) else none
def finP (fl : Bool) (f : Int) : Int := if 1 < f ∨ fl ≠ decide (f = 1) then 190 else 0
def scan1 (t : Int) (l1 : List S38) (fl : Bool) (f : Int) : Int := match scanP t true l1 f with
  | none => 190
  | some f => finP fl f
def scan0 (t : Int) (l0 l1 : List S38) (fl : Bool) (f : Int) : Int := match scanP t false l0 f with
  | none => 190
  | some f => scan1 t l1 fl f
def checkP (t : Int) (l0 l1 : List S38) (fl : Bool) : Int :=
  if t < 1 then 190 else if 16 < t then 190 else if 256 < l0.length then 190 else if l1.length < 1 then 190 else if 65535 < l1.length then 190 else scan0 t l0 l1 fl 0
theorem rd38 (l : List S38) (i : Nat) (h : i < l.length) : rd_T38 l (i : Int) = l[i] := by
  unfold rd_T38
  rw [Int.toNat_natCast, List.getD_eq_getElem?_getD, List.getElem?_eq_getElem h]
  rfl
theorem drop38 (l : List S38) (i : Nat) (h : i < l.length) : l.drop i = rd_T38 l (i : Int) :: l.drop (i + 1) := by
  rw [rd38 l i h]
  exact List.drop_eq_getElem_cons h
end Go.Proofs.YtponmfnegdlppaaDoor.P

end
section
-- Written by a program of this session (wip/tools/hprint.py, over the kit's printer), not by hand. Lean checks it.
namespace Go.Proofs.YtponmfnegdlppaaDoor.P
open Go.RowKit Go.Proofs.YtponmfnegdlppaaDoorW.PrintWords Go.Proofs.YtponmfnegdlppaaDoorW.PrintLast Go.Proofs.YtponmfnegdlppaaDoorW.PrintMore
attribute [local go_sem] max2_int min2_int max_two min_two max_three min_three max_four min_four
set_option linter.unusedVariables false
set_option linter.unusedSimpArgs false

theorem eqA38 (d : Nat) (w : World) (x0 y0 : Int) (x1 y1 : Int) (x2 y2 : Int) :
    (Op.equalIn (d + 2) 38 (.agg #[.int .i64 x0, .int .i64 x1, .int .i64 x2]) (.agg #[.int .i64 y0, .int .i64 y1, .int .i64 y2])).run Tryd.prog w = .ok (x0 == y0 && (x1 == y1 && (x2 == y2))) w := by
  refine eqA_of Tryd.underlying38 (by kernel_rfl) ?_
  refine eqf_cons (by rfl) (by go_simp; rfl) (by go_simp; rfl) (by go_simp) ?_
  refine eqf_cons (by rfl) (by go_simp; rfl) (by go_simp; rfl) (by go_simp) ?_
  exact eqf_last (by rfl) (by go_simp; rfl) (by go_simp; rfl) (by go_simp)
end Go.Proofs.YtponmfnegdlppaaDoor.P

end
section
-- Written by a program of this session (wip/tools/hprint.py, over the kit's printer), not by hand. Lean checks it.
namespace Go.Proofs.YtponmfnegdlppaaDoor.P
open Go.RowKit Go.Proofs.YtponmfnegdlppaaDoorW.PrintWords Go.Proofs.YtponmfnegdlppaaDoorW.PrintLast Go.Proofs.YtponmfnegdlppaaDoorW.PrintMore
attribute [local go_sem] max2_int min2_int max_two min_two max_three min_three max_four min_four
set_option linter.unusedVariables false
set_option linter.unusedSimpArgs false

attribute [local go_sem high] eqA38
/-! ### winnowlaw19_sameStates: function 53 -/
def winnowlaw19_sameStates.l0 : Nat → List (S38) → List (S38) → Int → Option (Bool)
  | 0, _, _, _ => none
  | k + 1, x0, x1, x5 => if x5 < (x0.length : Int) then (if 0 ≤ x5 then (if x5 < (x1.length : Int) then (if (!(((rd_T38 x0 x5).f0) == ((rd_T38 x1 x5).f0)) || (!(((rd_T38 x0 x5).f1) == ((rd_T38 x1 x5).f1)) || (!(((rd_T38 x0 x5).f2) == ((rd_T38 x1 x5).f2))))) = true then (some false) else (winnowlaw19_sameStates.l0 k x0 x1 (wrap64 (x5 + 1)))) else (none)) else (none)) else (some true)
def winnowlaw19_sameStates.f (k : Nat) (l0 : List (S38)) (l1 : List (S38)) : Option (Bool) := if (l0.length : Int) = (l1.length : Int) then (winnowlaw19_sameStates.l0 k l0 l1 0) else (some false)
theorem winnowlaw19_sameStates.mono_l : ∀ k, (∀ y0 y1 y2, LeO (winnowlaw19_sameStates.l0 k y0 y1 y2) (winnowlaw19_sameStates.l0 (k + 1) y0 y1 y2))
  | 0 => fun _ _ _ r h => by simp [winnowlaw19_sameStates.l0] at h
  | k + 1 => by
    have ih0 := winnowlaw19_sameStates.mono_l k
    · intro y0 y1 y2
      unfold winnowlaw19_sameStates.l0
      repeat' first
      | (with_reducible exact ih0 _ _ _)
      | (with_reducible exact LeO.refl _)
      | (with_reducible exact LeO.none _)
      | (with_reducible refine LeO.ite ?_ ?_)
      | (with_reducible refine LeO.bind ?_ (fun _ => ?_))
      | exact ih0 _ _ _
      | exact LeO.none _
      | refine LeO.ite ?_ ?_
      | refine LeO.bind ?_ (fun _ => ?_)
theorem winnowlaw19_sameStates.mono : ∀ a0 a1 k, LeO (winnowlaw19_sameStates.f k a0 a1) (winnowlaw19_sameStates.f (k + 1) a0 a1) := by
  intro a0 a1 k
  have ih0 := winnowlaw19_sameStates.mono_l k
  unfold winnowlaw19_sameStates.f
  repeat' first
      | (with_reducible exact ih0 _ _ _)
      | (with_reducible exact LeO.refl _)
      | (with_reducible exact LeO.none _)
      | (with_reducible refine LeO.ite ?_ ?_)
      | (with_reducible refine LeO.bind ?_ (fun _ => ?_))
      | exact ih0 _ _ _
      | exact LeO.none _
      | refine LeO.ite ?_ ?_
      | refine LeO.bind ?_ (fun _ => ?_)
set_option maxHeartbeats 8000000 in
set_option maxRecDepth 100000 in
theorem winnowlaw19_sameStates.calls (k : Nat) (A0 : Option Addr) (c0 : Nat) (l0 : List (S38)) (A1 : Option Addr) (c1 : Nat) (l1 : List (S38)) (r : Bool) (w : World) (hr0 : Kd.C k38 w A0 l0.length l0) (hc0 : l0.length ≤ c0) (hr1 : Kd.C k38 w A1 l1.length l1) (hc1 : l1.length ≤ c1) (h : winnowlaw19_sameStates.f k l0 l1 = some r) :
    Calls Tryd.prog 53 #[.slice A0 l0.length c0, .slice A1 l1.length c1] w fun e w' => e = .returned (.bool r) ∧ Drawn0 w w' := by
  have hu38 := Tryd.underlying38
  have HR0 := Aside0.mk hr0
  have HC0 := Aside0.mk hc0
  clear hr0 hc0
  have HR1 := Aside0.mk hr1
  have HC1 := Aside0.mk hc1
  clear hr1 hc1
  have H : (if (l0.length : Int) = (l1.length : Int) then (winnowlaw19_sameStates.l0 k l0 l1 0) else (some false)) = some r := h
  clear h
  by_cases c3 : (l0.length : Int) = (l1.length : Int)
  · rw [if_pos c3] at H
    have c3b0 : ((l0.length : Int) == (l1.length : Int)) = true := beq_iff_eq.mpr c3
    have c3b1 : ((l0.length : Int) != (l1.length : Int)) = false := bne_eq_false_iff_eq.mpr c3
    have c3b2 : (l0.length == l1.length) = true := by first | simpa using c3 | (simp at c3 ⊢; omega)
    clear c3
    have H' := Aside0.mk H
    clear H
    go_enter Tryd.func53, Tryd.ntmps53
    go_wp2
    repeat (go_quiet (fail); try go_wp2)
    go_loopg [5] k (fun kq v5 w' => ∃ (x5_1 : Int), v5 = .int .i64 x5_1 ∧ Aside0 (winnowlaw19_sameStates.l0 kq l0 l1 x5_1 = some r) ∧ Aside0 (kq ≤ k) ∧ Drawn0 w w')
    case atStart => exact ⟨(0), (by first | rfl | (simp; done) | (simp [*]; done)), H', ⟨Nat.le_refl _⟩, by repeat (first | exact Drawn0.refl _ | apply Drawn0.step)⟩
    case round =>
      clear H'
      try clear c1
      try clear p2
      try clear c3
      try clear c3b0
      try clear c3b1
      try clear c3b2
      obtain ⟨x5_1, rfl, HA, HK1, ⟨m1, rfl⟩⟩ := hrel
      cases gk with
      | zero => exact absurd HA.out (by simp [winnowlaw19_sameStates.l0])
      | succ k1 =>
        have H := HA.out
        clear HA
        simp only [winnowlaw19_sameStates.l0] at H
        by_cases c4 : x5_1 < (l0.length : Int)
        · rw [if_pos c4] at H
          have c4b0 : decide (x5_1 < (l0.length : Int)) = true := decide_eq_true c4
          clear c4
          by_cases c5 : 0 ≤ x5_1
          · rw [if_pos c5] at H
            have c5b0 : decide (0 ≤ x5_1) = true := decide_eq_true c5
            clear c5
            by_cases c6 : x5_1 < (l1.length : Int)
            · rw [if_pos c6] at H
              have c6b0 : decide (x5_1 < (l1.length : Int)) = true := decide_eq_true c6
              clear c6
              by_cases c7 : (!(((rd_T38 l0 x5_1).f0) == ((rd_T38 l1 x5_1).f0)) || (!(((rd_T38 l0 x5_1).f1) == ((rd_T38 l1 x5_1).f1)) || (!(((rd_T38 l0 x5_1).f2) == ((rd_T38 l1 x5_1).f2))))) = true
              · rw [if_pos c7] at H
                have c7b0 : (!(((rd_T38 l0 x5_1).f0) == ((rd_T38 l1 x5_1).f0)) || (!(((rd_T38 l0 x5_1).f1) == ((rd_T38 l1 x5_1).f1)) || (!(((rd_T38 l0 x5_1).f2) == ((rd_T38 l1 x5_1).f2))))) = true := c7
                clear c7
                obtain rfl := Option.some.inj H
                have p168 : 0 ≤ (x5_1 : Int) := of_decide_eq_true (by first | (with_reducible assumption) | assumption)
                have q168 : x5_1 < (l0.length : Int) := of_decide_eq_true (by first | (with_reducible assumption) | assumption)
                obtain ⟨ad168, e168, hx168_0, hx168_1, hx168_2⟩ := at_T38 HR0.out x5_1 p168 q168
                cases e168
                replace p168 := eq_true p168
                replace q168 := eq_true q168
                have p169 : 0 ≤ (x5_1 : Int) := of_decide_eq_true (by first | (with_reducible assumption) | assumption)
                have q169 : x5_1 < (l1.length : Int) := of_decide_eq_true (by first | (with_reducible assumption) | assumption)
                obtain ⟨ad169, e169, hx169_0, hx169_1, hx169_2⟩ := at_T38 HR1.out x5_1 p169 q169
                cases e169
                replace p169 := eq_true p169
                replace q169 := eq_true q169
                go_wp2
                repeat (go_quiet (fail); try go_wp2)
                go_ret
                exact ⟨by first | rfl | (simp; done) | (simp [*]; done), by repeat (first | exact Drawn0.refl _ | apply Drawn0.step)⟩
              · rw [if_neg c7] at H
                have c7b0 : (!(((rd_T38 l0 x5_1).f0) == ((rd_T38 l1 x5_1).f0)) || (!(((rd_T38 l0 x5_1).f1) == ((rd_T38 l1 x5_1).f1)) || (!(((rd_T38 l0 x5_1).f2) == ((rd_T38 l1 x5_1).f2))))) = false := by simpa using c7
                clear c7
                have H' := Aside0.mk H
                clear H
                have p168 : 0 ≤ (x5_1 : Int) := of_decide_eq_true (by first | (with_reducible assumption) | assumption)
                have q168 : x5_1 < (l0.length : Int) := of_decide_eq_true (by first | (with_reducible assumption) | assumption)
                obtain ⟨ad168, e168, hx168_0, hx168_1, hx168_2⟩ := at_T38 HR0.out x5_1 p168 q168
                cases e168
                replace p168 := eq_true p168
                replace q168 := eq_true q168
                have p169 : 0 ≤ (x5_1 : Int) := of_decide_eq_true (by first | (with_reducible assumption) | assumption)
                have q169 : x5_1 < (l1.length : Int) := of_decide_eq_true (by first | (with_reducible assumption) | assumption)
                obtain ⟨ad169, e169, hx169_0, hx169_1, hx169_2⟩ := at_T38 HR1.out x5_1 p169 q169
                cases e169
                replace p169 := eq_true p169
                replace q169 := eq_true q169
                go_wp2
                repeat (go_quiet (fail); try go_wp2)
                go_roundg k1
                case measure => have := HK1.out; omega
                case rel => exact ⟨(wrap64 (x5_1 + 1)), (by first | rfl | (simp; done) | (simp [*]; done)), H', ⟨by have := HK1.out; omega⟩, by repeat (first | exact Drawn0.refl _ | apply Drawn0.step)⟩
            · rw [if_neg c6] at H
              exact absurd H (by simp)
          · rw [if_neg c5] at H
            exact absurd H (by simp)
        · rw [if_neg c4] at H
          have c4b0 : decide (x5_1 < (l0.length : Int)) = false := decide_eq_false c4
          clear c4
          obtain rfl := Option.some.inj H
          go_wp2
          repeat (go_quiet (fail); try go_wp2)
          go_ret
          exact ⟨by first | rfl | (simp; done) | (simp [*]; done), by repeat (first | exact Drawn0.refl _ | apply Drawn0.step)⟩
  · rw [if_neg c3] at H
    have c3b0 : ((l0.length : Int) == (l1.length : Int)) = false := beq_eq_false_iff_ne.mpr c3
    have c3b1 : ((l0.length : Int) != (l1.length : Int)) = true := bne_iff_ne.mpr c3
    have c3b2 : (l0.length == l1.length) = false := by first | simpa using c3 | (simp at c3 ⊢; omega)
    obtain rfl := Option.some.inj H
    go_enter Tryd.func53, Tryd.ntmps53
    go_wp2
    repeat (go_quiet (fail); try go_wp2)
    go_ret
    exact ⟨by first | rfl | (simp; done) | (simp [*]; done), by repeat (first | exact Drawn0.refl _ | apply Drawn0.step)⟩

end Go.Proofs.YtponmfnegdlppaaDoor.P

end
section
-- Written by a program of this session (wip/tools/hprint.py, over the kit's printer), not by hand. Lean checks it.
namespace Go.Proofs.YtponmfnegdlppaaDoor.P
open Go.RowKit Go.Proofs.YtponmfnegdlppaaDoorW.PrintWords Go.Proofs.YtponmfnegdlppaaDoorW.PrintLast Go.Proofs.YtponmfnegdlppaaDoorW.PrintMore
attribute [local go_sem] max2_int min2_int max_two min_two max_three min_three max_four min_four
set_option linter.unusedVariables false
set_option linter.unusedSimpArgs false

/-! ### winnowlaw19_same: function 27 -/
def winnowlaw19_same.f (k : Nat) (a0_0 : Int) (l0_1 : List (S38)) (l0_2 : List (S38)) (a0_3 : Bool) (a1_0 : Int) (l1_1 : List (S38)) (l1_2 : List (S38)) (a1_3 : Bool) : Option (Bool) := if a0_0 = a1_0 then (if (a0_3 == a1_3) = true then ((winnowlaw19_sameStates.f k l0_1 l1_1).bind fun t172 => (if t172 = true then ((winnowlaw19_sameStates.f k l0_2 l1_2).bind fun t173 => (some t173)) else (some false))) else (some false)) else (some false)
theorem winnowlaw19_same.mono : ∀ a0 a1 a2 a3 a4 a5 a6 a7 k, LeO (winnowlaw19_same.f k a0 a1 a2 a3 a4 a5 a6 a7) (winnowlaw19_same.f (k + 1) a0 a1 a2 a3 a4 a5 a6 a7) := by
  intro a0 a1 a2 a3 a4 a5 a6 a7 k
  unfold winnowlaw19_same.f
  repeat' first
      | (with_reducible exact winnowlaw19_sameStates.mono _ _ _)
      | (with_reducible exact LeO.refl _)
      | (with_reducible exact LeO.none _)
      | (with_reducible refine LeO.ite ?_ ?_)
      | (with_reducible refine LeO.bind ?_ (fun _ => ?_))
      | exact winnowlaw19_sameStates.mono _ _ _
      | exact LeO.none _
      | refine LeO.ite ?_ ?_
      | refine LeO.bind ?_ (fun _ => ?_)
set_option maxHeartbeats 8000000 in
set_option maxRecDepth 100000 in
theorem winnowlaw19_same.calls (k : Nat) (a0_0 : Int) (A0_1 : Option Addr) (c0_1 : Nat) (l0_1 : List (S38)) (A0_2 : Option Addr) (c0_2 : Nat) (l0_2 : List (S38)) (a0_3 : Bool) (a1_0 : Int) (A1_1 : Option Addr) (c1_1 : Nat) (l1_1 : List (S38)) (A1_2 : Option Addr) (c1_2 : Nat) (l1_2 : List (S38)) (a1_3 : Bool) (r : Bool) (w : World) (hr0_1 : Kd.C k38 w A0_1 l0_1.length l0_1) (hc0_1 : l0_1.length ≤ c0_1) (hr0_2 : Kd.C k38 w A0_2 l0_2.length l0_2) (hc0_2 : l0_2.length ≤ c0_2) (hr1_1 : Kd.C k38 w A1_1 l1_1.length l1_1) (hc1_1 : l1_1.length ≤ c1_1) (hr1_2 : Kd.C k38 w A1_2 l1_2.length l1_2) (hc1_2 : l1_2.length ≤ c1_2) (h : winnowlaw19_same.f k a0_0 l0_1 l0_2 a0_3 a1_0 l1_1 l1_2 a1_3 = some r) :
    Calls Tryd.prog 27 #[.agg #[.int .i64 a0_0, .slice A0_1 l0_1.length c0_1, .slice A0_2 l0_2.length c0_2, .bool a0_3], .agg #[.int .i64 a1_0, .slice A1_1 l1_1.length c1_1, .slice A1_2 l1_2.length c1_2, .bool a1_3]] w fun e w' => e = .returned (.bool r) ∧ Below w.heap.size w w' := by
  have hu24 := Tryd.underlying24
  have HR0_1 := Aside0.mk hr0_1
  have HC0_1 := Aside0.mk hc0_1
  clear hr0_1 hc0_1
  have HR0_2 := Aside0.mk hr0_2
  have HC0_2 := Aside0.mk hc0_2
  clear hr0_2 hc0_2
  have HR1_1 := Aside0.mk hr1_1
  have HC1_1 := Aside0.mk hc1_1
  clear hr1_1 hc1_1
  have HR1_2 := Aside0.mk hr1_2
  have HC1_2 := Aside0.mk hc1_2
  clear hr1_2 hc1_2
  have HB := Aside0.mk (Below.refl w.heap.size w)
  have H : (if a0_0 = a1_0 then (if (a0_3 == a1_3) = true then ((winnowlaw19_sameStates.f k l0_1 l1_1).bind fun t172 => (if t172 = true then ((winnowlaw19_sameStates.f k l0_2 l1_2).bind fun t173 => (some t173)) else (some false))) else (some false)) else (some false)) = some r := h
  clear h
  by_cases c3 : a0_0 = a1_0
  · rw [if_pos c3] at H
    have c3b0 : (a0_0 == a1_0) = true := beq_iff_eq.mpr c3
    have c3b1 : (a0_0 != a1_0) = false := bne_eq_false_iff_eq.mpr c3
    clear c3
    by_cases c4 : (a0_3 == a1_3) = true
    · rw [if_pos c4] at H
      have c4b0 : (a0_3 == a1_3) = true := c4
      (try (have c4b1 : decide (a0_3 = a1_3) = true := by simpa using c4))
      (try (have c4b2 : (a0_3 == a1_3) = true := by simpa using c4))
      clear c4
      replace H := Option.bind_eq_some_iff.mp H
      obtain ⟨t172, A50, H⟩ := H
      replace H : (if t172 = true then ((winnowlaw19_sameStates.f k l0_2 l1_2).bind fun t173 => (some t173)) else (some false)) = some r := H
      have A5 := Aside0.mk A50
      clear A50
      by_cases c6 : t172 = true
      · subst c6
        have H1 : ((winnowlaw19_sameStates.f k l0_2 l1_2).bind fun t173 => (some t173)) = some r := by rw [if_pos rfl] at H; exact H
        clear H
        have H := H1
        clear H1
        replace H := Option.bind_eq_some_iff.mp H
        obtain ⟨t173, A70, H⟩ := H
        replace H : (some t173) = some r := H
        have A7 := Aside0.mk A70
        clear A70
        obtain rfl := Option.some.inj H
        go_enter Tryd.func27, Tryd.ntmps27
        go_wp2_with (first | ((with_reducible refine gate_dst (N := 2) rfl ?_); refine box_event ?hg (N := 2) ?hd (cs := #[.int .i64 a0_0, .slice A0_1 l0_1.length c0_1, .slice A0_2 l0_2.length c0_2, .bool a0_3]) (t := 24) ?hr ?_; (case hd => rfl); (case hg => rfl); (case hr => first | (go_simp; done) | (go_simp; rfl)); intro gb170 hg w8 hbox hb; have n0_ := Aside0.mk (below_step (by repeat (first | (with_reducible first | exact HB.out | apply below_alloc | apply pw_below_drewN | apply below_drew1) | exact HB.out)) hb); have n1_ := Aside0.mk (hbox); have n2_ := Aside0.mk ((by rw [hg]; exact (below_size (by repeat (first | (with_reducible first | exact HB.out | apply below_alloc | apply pw_below_drewN | apply below_drew1) | exact HB.out))) : w.heap.size ≤ gb170)); have n3_ := Aside0.mk ((by rw [hg]; exact (below_size (by repeat (first | (with_reducible first | exact HB.out | apply below_alloc | apply pw_below_drewN | apply below_drew1) | exact HB.out))) : w.heap.size ≤ gb170)); clear HB; have HB := n0_; have BK170 := n1_; have GW170 := n2_; have GE170 := n3_; clear n0_ n1_ n2_ n3_; clear hb hbox hg) | ((with_reducible refine gate_dst (N := 3) rfl ?_); refine box_event ?hg (N := 3) ?hd (cs := #[.int .i64 a1_0, .slice A1_1 l1_1.length c1_1, .slice A1_2 l1_2.length c1_2, .bool a1_3]) (t := 24) ?hr ?_; (case hd => rfl); (case hg => rfl); (case hr => first | (go_simp; done) | (go_simp; rfl)); intro gb171 hg w9 hbox hb; have n0_ := Aside0.mk (blk_below (g := gb170) (o := .cells #[.int .i64 a0_0, .slice A0_1 l0_1.length c0_1, .slice A0_2 l0_2.length c0_2, .bool a0_3] 24 (0, 0)) (by (with_reducible repeat (first | refine blk_drewN ?_ _ | refine blk_drew ?_ | refine blk_alloc ?_ _)); exact BK170.out) hb); have n1_ := Aside0.mk (below_step (by repeat (first | (with_reducible first | exact HB.out | apply below_alloc | apply pw_below_drewN | apply below_drew1 | refine below_set ?_ GE170.out) | exact HB.out)) hb); have n2_ := Aside0.mk (hbox); have n3_ := Aside0.mk ((by rw [hg]; exact (below_size (by repeat (first | (with_reducible first | exact HB.out | apply below_alloc | apply pw_below_drewN | apply below_drew1 | refine below_set ?_ GE170.out) | exact HB.out))) : w.heap.size ≤ gb171)); have n4_ := Aside0.mk ((by rw [hg]; exact (below_size (by repeat (first | (with_reducible first | exact HB.out | apply below_alloc | apply pw_below_drewN | apply below_drew1 | refine below_set ?_ GE170.out) | exact HB.out))) : w.heap.size ≤ gb171)); have n5_ := Aside0.mk ((by rw [hg]; exact Nat.ne_of_lt (blk_lt (g := gb170) (o := .cells #[.int .i64 a0_0, .slice A0_1 l0_1.length c0_1, .slice A0_2 l0_2.length c0_2, .bool a0_3] 24 (0, 0)) (by (with_reducible repeat (first | refine blk_drewN ?_ _ | refine blk_drew ?_ | refine blk_alloc ?_ _)); exact BK170.out)) : gb170 ≠ gb171)); have n6_ := Aside0.mk ((by rw [hg]; exact Nat.ne_of_gt (blk_lt (g := gb170) (o := .cells #[.int .i64 a0_0, .slice A0_1 l0_1.length c0_1, .slice A0_2 l0_2.length c0_2, .bool a0_3] 24 (0, 0)) (by (with_reducible repeat (first | refine blk_drewN ?_ _ | refine blk_drew ?_ | refine blk_alloc ?_ _)); exact BK170.out)) : gb171 ≠ gb170)); clear BK170; clear HB; have BK170 := n0_; have HB := n1_; have BK171 := n2_; have GW171 := n3_; have GE171 := n4_; have NB170_171 := n5_; have NB171_170 := n6_; clear n0_ n1_ n2_ n3_ n4_ n5_ n6_; clear hb hbox hg; have hnb10 := NB170_171.out; have hnc10 := NB171_170.out; have hcz11_0 : w9.cell? ⟨gb170, 0, none⟩ = some (.int .i64 a0_0) := (blk_cell BK170.out 0).trans rfl; have hcz11_1 : w9.cell? ⟨gb170, 1, none⟩ = some (.slice A0_1 l0_1.length c0_1) := (blk_cell BK170.out 1).trans rfl; have hcz11_2 : w9.cell? ⟨gb170, 2, none⟩ = some (.slice A0_2 l0_2.length c0_2) := (blk_cell BK170.out 2).trans rfl; have hcz11_3 : w9.cell? ⟨gb170, 3, none⟩ = some (.bool a0_3) := (blk_cell BK170.out 3).trans rfl; have hfz11_0 := blk_frozen BK170.out 0; have hfz11_1 := blk_frozen BK170.out 1; have hfz11_2 := blk_frozen BK170.out 2; have hfz11_3 := blk_frozen BK170.out 3; have hcz12_0 : w9.cell? ⟨gb171, 0, none⟩ = some (.int .i64 a1_0) := (blk_cell BK171.out 0).trans rfl; have hcz12_1 : w9.cell? ⟨gb171, 1, none⟩ = some (.slice A1_1 l1_1.length c1_1) := (blk_cell BK171.out 1).trans rfl; have hcz12_2 : w9.cell? ⟨gb171, 2, none⟩ = some (.slice A1_2 l1_2.length c1_2) := (blk_cell BK171.out 2).trans rfl; have hcz12_3 : w9.cell? ⟨gb171, 3, none⟩ = some (.bool a1_3) := (blk_cell BK171.out 3).trans rfl; have hfz12_0 := blk_frozen BK171.out 0; have hfz12_1 := blk_frozen BK171.out 1; have hfz12_2 := blk_frozen BK171.out 2; have hfz12_3 := blk_frozen BK171.out 3) | (go_at_call 53; (with_reducible refine (winnowlaw19_sameStates.calls k _ _ l0_1 _ _ l1_1 true _ ?side1 ?side2 ?side3 ?side4 A5.out).mono ?_); (case side1 => repeat (first | exact (Kd.C_below HR0_1.out HB.out) | (with_reducible refine Kd.C_alloc ?_ _) | (with_reducible refine Kd.C_drewN ?_ _) | (with_reducible refine Kd.C_drew ?_))); (case side2 => exact HC0_1.out); (case side3 => repeat (first | exact (Kd.C_below HR1_1.out HB.out) | (with_reducible refine Kd.C_alloc ?_ _) | (with_reducible refine Kd.C_drewN ?_ _) | (with_reducible refine Kd.C_drew ?_))); (case side4 => exact HC1_1.out); rintro e w' ⟨rfl, ⟨nd, rfl⟩⟩) | (go_at_call 53; (with_reducible refine (winnowlaw19_sameStates.calls k _ _ l0_2 _ _ l1_2 t173 _ ?side1 ?side2 ?side3 ?side4 A7.out).mono ?_); (case side1 => repeat (first | exact (Kd.C_below HR0_2.out (by repeat (first | (with_reducible first | exact HB.out | apply below_alloc | apply pw_below_drewN | apply below_drew1 | refine below_set ?_ GE170.out | refine below_set ?_ GE171.out) | exact HB.out))) | (with_reducible refine Kd.C_alloc ?_ _) | (with_reducible refine Kd.C_drewN ?_ _) | (with_reducible refine Kd.C_drew ?_))); (case side2 => exact HC0_2.out); (case side3 => repeat (first | exact (Kd.C_below HR1_2.out (by repeat (first | (with_reducible first | exact HB.out | apply below_alloc | apply pw_below_drewN | apply below_drew1 | refine below_set ?_ GE170.out | refine below_set ?_ GE171.out) | exact HB.out))) | (with_reducible refine Kd.C_alloc ?_ _) | (with_reducible refine Kd.C_drewN ?_ _) | (with_reducible refine Kd.C_drew ?_))); (case side4 => exact HC1_2.out); rintro e w' ⟨rfl, ⟨nd, rfl⟩⟩))
        go_ret
        exact ⟨by first | rfl | (simp [errW_none, errW_some] <;> rfl) | (simp [*, errW_none, errW_some] <;> rfl), by repeat (first | (with_reducible first | exact HB.out | apply below_alloc | apply pw_below_drewN | apply below_drew1 | refine below_set ?_ GE170.out | refine below_set ?_ GE171.out) | exact HB.out)⟩
      · replace c6 := Bool.eq_false_iff.mpr c6
        subst c6
        have H1 : (some false) = some r := by rw [if_neg (show ¬ (false = true) by decide)] at H; exact H
        clear H
        have H := H1
        clear H1
        obtain rfl := Option.some.inj H
        go_enter Tryd.func27, Tryd.ntmps27
        go_wp2_with (first | ((with_reducible refine gate_dst (N := 2) rfl ?_); refine box_event ?hg (N := 2) ?hd (cs := #[.int .i64 a0_0, .slice A0_1 l0_1.length c0_1, .slice A0_2 l0_2.length c0_2, .bool a0_3]) (t := 24) ?hr ?_; (case hd => rfl); (case hg => rfl); (case hr => first | (go_simp; done) | (go_simp; rfl)); intro gb170 hg w13 hbox hb; have n0_ := Aside0.mk (below_step (by repeat (first | (with_reducible first | exact HB.out | apply below_alloc | apply pw_below_drewN | apply below_drew1) | exact HB.out)) hb); have n1_ := Aside0.mk (hbox); have n2_ := Aside0.mk ((by rw [hg]; exact (below_size (by repeat (first | (with_reducible first | exact HB.out | apply below_alloc | apply pw_below_drewN | apply below_drew1) | exact HB.out))) : w.heap.size ≤ gb170)); have n3_ := Aside0.mk ((by rw [hg]; exact (below_size (by repeat (first | (with_reducible first | exact HB.out | apply below_alloc | apply pw_below_drewN | apply below_drew1) | exact HB.out))) : w.heap.size ≤ gb170)); clear HB; have HB := n0_; have BK170 := n1_; have GW170 := n2_; have GE170 := n3_; clear n0_ n1_ n2_ n3_; clear hb hbox hg) | ((with_reducible refine gate_dst (N := 3) rfl ?_); refine box_event ?hg (N := 3) ?hd (cs := #[.int .i64 a1_0, .slice A1_1 l1_1.length c1_1, .slice A1_2 l1_2.length c1_2, .bool a1_3]) (t := 24) ?hr ?_; (case hd => rfl); (case hg => rfl); (case hr => first | (go_simp; done) | (go_simp; rfl)); intro gb171 hg w14 hbox hb; have n0_ := Aside0.mk (blk_below (g := gb170) (o := .cells #[.int .i64 a0_0, .slice A0_1 l0_1.length c0_1, .slice A0_2 l0_2.length c0_2, .bool a0_3] 24 (0, 0)) (by (with_reducible repeat (first | refine blk_drewN ?_ _ | refine blk_drew ?_ | refine blk_alloc ?_ _)); exact BK170.out) hb); have n1_ := Aside0.mk (below_step (by repeat (first | (with_reducible first | exact HB.out | apply below_alloc | apply pw_below_drewN | apply below_drew1 | refine below_set ?_ GE170.out) | exact HB.out)) hb); have n2_ := Aside0.mk (hbox); have n3_ := Aside0.mk ((by rw [hg]; exact (below_size (by repeat (first | (with_reducible first | exact HB.out | apply below_alloc | apply pw_below_drewN | apply below_drew1 | refine below_set ?_ GE170.out) | exact HB.out))) : w.heap.size ≤ gb171)); have n4_ := Aside0.mk ((by rw [hg]; exact (below_size (by repeat (first | (with_reducible first | exact HB.out | apply below_alloc | apply pw_below_drewN | apply below_drew1 | refine below_set ?_ GE170.out) | exact HB.out))) : w.heap.size ≤ gb171)); have n5_ := Aside0.mk ((by rw [hg]; exact Nat.ne_of_lt (blk_lt (g := gb170) (o := .cells #[.int .i64 a0_0, .slice A0_1 l0_1.length c0_1, .slice A0_2 l0_2.length c0_2, .bool a0_3] 24 (0, 0)) (by (with_reducible repeat (first | refine blk_drewN ?_ _ | refine blk_drew ?_ | refine blk_alloc ?_ _)); exact BK170.out)) : gb170 ≠ gb171)); have n6_ := Aside0.mk ((by rw [hg]; exact Nat.ne_of_gt (blk_lt (g := gb170) (o := .cells #[.int .i64 a0_0, .slice A0_1 l0_1.length c0_1, .slice A0_2 l0_2.length c0_2, .bool a0_3] 24 (0, 0)) (by (with_reducible repeat (first | refine blk_drewN ?_ _ | refine blk_drew ?_ | refine blk_alloc ?_ _)); exact BK170.out)) : gb171 ≠ gb170)); clear BK170; clear HB; have BK170 := n0_; have HB := n1_; have BK171 := n2_; have GW171 := n3_; have GE171 := n4_; have NB170_171 := n5_; have NB171_170 := n6_; clear n0_ n1_ n2_ n3_ n4_ n5_ n6_; clear hb hbox hg; have hnb15 := NB170_171.out; have hnc15 := NB171_170.out; have hcz16_0 : w14.cell? ⟨gb170, 0, none⟩ = some (.int .i64 a0_0) := (blk_cell BK170.out 0).trans rfl; have hcz16_1 : w14.cell? ⟨gb170, 1, none⟩ = some (.slice A0_1 l0_1.length c0_1) := (blk_cell BK170.out 1).trans rfl; have hcz16_2 : w14.cell? ⟨gb170, 2, none⟩ = some (.slice A0_2 l0_2.length c0_2) := (blk_cell BK170.out 2).trans rfl; have hcz16_3 : w14.cell? ⟨gb170, 3, none⟩ = some (.bool a0_3) := (blk_cell BK170.out 3).trans rfl; have hfz16_0 := blk_frozen BK170.out 0; have hfz16_1 := blk_frozen BK170.out 1; have hfz16_2 := blk_frozen BK170.out 2; have hfz16_3 := blk_frozen BK170.out 3; have hcz17_0 : w14.cell? ⟨gb171, 0, none⟩ = some (.int .i64 a1_0) := (blk_cell BK171.out 0).trans rfl; have hcz17_1 : w14.cell? ⟨gb171, 1, none⟩ = some (.slice A1_1 l1_1.length c1_1) := (blk_cell BK171.out 1).trans rfl; have hcz17_2 : w14.cell? ⟨gb171, 2, none⟩ = some (.slice A1_2 l1_2.length c1_2) := (blk_cell BK171.out 2).trans rfl; have hcz17_3 : w14.cell? ⟨gb171, 3, none⟩ = some (.bool a1_3) := (blk_cell BK171.out 3).trans rfl; have hfz17_0 := blk_frozen BK171.out 0; have hfz17_1 := blk_frozen BK171.out 1; have hfz17_2 := blk_frozen BK171.out 2; have hfz17_3 := blk_frozen BK171.out 3) | (go_at_call 53; (with_reducible refine (winnowlaw19_sameStates.calls k _ _ l0_1 _ _ l1_1 false _ ?side1 ?side2 ?side3 ?side4 A5.out).mono ?_); (case side1 => repeat (first | exact (Kd.C_below HR0_1.out HB.out) | (with_reducible refine Kd.C_alloc ?_ _) | (with_reducible refine Kd.C_drewN ?_ _) | (with_reducible refine Kd.C_drew ?_))); (case side2 => exact HC0_1.out); (case side3 => repeat (first | exact (Kd.C_below HR1_1.out HB.out) | (with_reducible refine Kd.C_alloc ?_ _) | (with_reducible refine Kd.C_drewN ?_ _) | (with_reducible refine Kd.C_drew ?_))); (case side4 => exact HC1_1.out); rintro e w' ⟨rfl, ⟨nd, rfl⟩⟩))
        go_ret
        exact ⟨by first | rfl | (simp [errW_none, errW_some] <;> rfl) | (simp [*, errW_none, errW_some] <;> rfl), by repeat (first | (with_reducible first | exact HB.out | apply below_alloc | apply pw_below_drewN | apply below_drew1 | refine below_set ?_ GE170.out | refine below_set ?_ GE171.out) | exact HB.out)⟩
    · rw [if_neg c4] at H
      have c4b0 : (a0_3 == a1_3) = false := by simpa using c4
      (try (have c4b1 : decide (a0_3 = a1_3) = false := by simpa using c4))
      (try (have c4b2 : (a0_3 == a1_3) = false := by simpa using c4))
      (try (have c4b3 : ¬ (a0_3 = a1_3) := by simpa using c4))
      clear c4
      obtain rfl := Option.some.inj H
      go_enter Tryd.func27, Tryd.ntmps27
      go_wp2_with (first | ((with_reducible refine gate_dst (N := 2) rfl ?_); refine box_event ?hg (N := 2) ?hd (cs := #[.int .i64 a0_0, .slice A0_1 l0_1.length c0_1, .slice A0_2 l0_2.length c0_2, .bool a0_3]) (t := 24) ?hr ?_; (case hd => rfl); (case hg => rfl); (case hr => first | (go_simp; done) | (go_simp; rfl)); intro gb170 hg w18 hbox hb; have n0_ := Aside0.mk (below_step (by repeat (first | (with_reducible first | exact HB.out | apply below_alloc | apply pw_below_drewN | apply below_drew1) | exact HB.out)) hb); have n1_ := Aside0.mk (hbox); have n2_ := Aside0.mk ((by rw [hg]; exact (below_size (by repeat (first | (with_reducible first | exact HB.out | apply below_alloc | apply pw_below_drewN | apply below_drew1) | exact HB.out))) : w.heap.size ≤ gb170)); have n3_ := Aside0.mk ((by rw [hg]; exact (below_size (by repeat (first | (with_reducible first | exact HB.out | apply below_alloc | apply pw_below_drewN | apply below_drew1) | exact HB.out))) : w.heap.size ≤ gb170)); clear HB; have HB := n0_; have BK170 := n1_; have GW170 := n2_; have GE170 := n3_; clear n0_ n1_ n2_ n3_; clear hb hbox hg) | ((with_reducible refine gate_dst (N := 3) rfl ?_); refine box_event ?hg (N := 3) ?hd (cs := #[.int .i64 a1_0, .slice A1_1 l1_1.length c1_1, .slice A1_2 l1_2.length c1_2, .bool a1_3]) (t := 24) ?hr ?_; (case hd => rfl); (case hg => rfl); (case hr => first | (go_simp; done) | (go_simp; rfl)); intro gb171 hg w19 hbox hb; have n0_ := Aside0.mk (blk_below (g := gb170) (o := .cells #[.int .i64 a0_0, .slice A0_1 l0_1.length c0_1, .slice A0_2 l0_2.length c0_2, .bool a0_3] 24 (0, 0)) (by (with_reducible repeat (first | refine blk_drewN ?_ _ | refine blk_drew ?_ | refine blk_alloc ?_ _)); exact BK170.out) hb); have n1_ := Aside0.mk (below_step (by repeat (first | (with_reducible first | exact HB.out | apply below_alloc | apply pw_below_drewN | apply below_drew1 | refine below_set ?_ GE170.out) | exact HB.out)) hb); have n2_ := Aside0.mk (hbox); have n3_ := Aside0.mk ((by rw [hg]; exact (below_size (by repeat (first | (with_reducible first | exact HB.out | apply below_alloc | apply pw_below_drewN | apply below_drew1 | refine below_set ?_ GE170.out) | exact HB.out))) : w.heap.size ≤ gb171)); have n4_ := Aside0.mk ((by rw [hg]; exact (below_size (by repeat (first | (with_reducible first | exact HB.out | apply below_alloc | apply pw_below_drewN | apply below_drew1 | refine below_set ?_ GE170.out) | exact HB.out))) : w.heap.size ≤ gb171)); have n5_ := Aside0.mk ((by rw [hg]; exact Nat.ne_of_lt (blk_lt (g := gb170) (o := .cells #[.int .i64 a0_0, .slice A0_1 l0_1.length c0_1, .slice A0_2 l0_2.length c0_2, .bool a0_3] 24 (0, 0)) (by (with_reducible repeat (first | refine blk_drewN ?_ _ | refine blk_drew ?_ | refine blk_alloc ?_ _)); exact BK170.out)) : gb170 ≠ gb171)); have n6_ := Aside0.mk ((by rw [hg]; exact Nat.ne_of_gt (blk_lt (g := gb170) (o := .cells #[.int .i64 a0_0, .slice A0_1 l0_1.length c0_1, .slice A0_2 l0_2.length c0_2, .bool a0_3] 24 (0, 0)) (by (with_reducible repeat (first | refine blk_drewN ?_ _ | refine blk_drew ?_ | refine blk_alloc ?_ _)); exact BK170.out)) : gb171 ≠ gb170)); clear BK170; clear HB; have BK170 := n0_; have HB := n1_; have BK171 := n2_; have GW171 := n3_; have GE171 := n4_; have NB170_171 := n5_; have NB171_170 := n6_; clear n0_ n1_ n2_ n3_ n4_ n5_ n6_; clear hb hbox hg; have hnb20 := NB170_171.out; have hnc20 := NB171_170.out; have hcz21_0 : w19.cell? ⟨gb170, 0, none⟩ = some (.int .i64 a0_0) := (blk_cell BK170.out 0).trans rfl; have hcz21_1 : w19.cell? ⟨gb170, 1, none⟩ = some (.slice A0_1 l0_1.length c0_1) := (blk_cell BK170.out 1).trans rfl; have hcz21_2 : w19.cell? ⟨gb170, 2, none⟩ = some (.slice A0_2 l0_2.length c0_2) := (blk_cell BK170.out 2).trans rfl; have hcz21_3 : w19.cell? ⟨gb170, 3, none⟩ = some (.bool a0_3) := (blk_cell BK170.out 3).trans rfl; have hfz21_0 := blk_frozen BK170.out 0; have hfz21_1 := blk_frozen BK170.out 1; have hfz21_2 := blk_frozen BK170.out 2; have hfz21_3 := blk_frozen BK170.out 3; have hcz22_0 : w19.cell? ⟨gb171, 0, none⟩ = some (.int .i64 a1_0) := (blk_cell BK171.out 0).trans rfl; have hcz22_1 : w19.cell? ⟨gb171, 1, none⟩ = some (.slice A1_1 l1_1.length c1_1) := (blk_cell BK171.out 1).trans rfl; have hcz22_2 : w19.cell? ⟨gb171, 2, none⟩ = some (.slice A1_2 l1_2.length c1_2) := (blk_cell BK171.out 2).trans rfl; have hcz22_3 : w19.cell? ⟨gb171, 3, none⟩ = some (.bool a1_3) := (blk_cell BK171.out 3).trans rfl; have hfz22_0 := blk_frozen BK171.out 0; have hfz22_1 := blk_frozen BK171.out 1; have hfz22_2 := blk_frozen BK171.out 2; have hfz22_3 := blk_frozen BK171.out 3))
      go_ret
      exact ⟨by first | rfl | (simp [errW_none, errW_some] <;> rfl) | (simp [*, errW_none, errW_some] <;> rfl), by repeat (first | (with_reducible first | exact HB.out | apply below_alloc | apply pw_below_drewN | apply below_drew1 | refine below_set ?_ GE170.out | refine below_set ?_ GE171.out) | exact HB.out)⟩
  · rw [if_neg c3] at H
    have c3b0 : (a0_0 == a1_0) = false := beq_eq_false_iff_ne.mpr c3
    have c3b1 : (a0_0 != a1_0) = true := bne_iff_ne.mpr c3
    obtain rfl := Option.some.inj H
    go_enter Tryd.func27, Tryd.ntmps27
    go_wp2_with (first | ((with_reducible refine gate_dst (N := 2) rfl ?_); refine box_event ?hg (N := 2) ?hd (cs := #[.int .i64 a0_0, .slice A0_1 l0_1.length c0_1, .slice A0_2 l0_2.length c0_2, .bool a0_3]) (t := 24) ?hr ?_; (case hd => rfl); (case hg => rfl); (case hr => first | (go_simp; done) | (go_simp; rfl)); intro gb170 hg w23 hbox hb; have n0_ := Aside0.mk (below_step (by repeat (first | (with_reducible first | exact HB.out | apply below_alloc | apply pw_below_drewN | apply below_drew1) | exact HB.out)) hb); have n1_ := Aside0.mk (hbox); have n2_ := Aside0.mk ((by rw [hg]; exact (below_size (by repeat (first | (with_reducible first | exact HB.out | apply below_alloc | apply pw_below_drewN | apply below_drew1) | exact HB.out))) : w.heap.size ≤ gb170)); have n3_ := Aside0.mk ((by rw [hg]; exact (below_size (by repeat (first | (with_reducible first | exact HB.out | apply below_alloc | apply pw_below_drewN | apply below_drew1) | exact HB.out))) : w.heap.size ≤ gb170)); clear HB; have HB := n0_; have BK170 := n1_; have GW170 := n2_; have GE170 := n3_; clear n0_ n1_ n2_ n3_; clear hb hbox hg) | ((with_reducible refine gate_dst (N := 3) rfl ?_); refine box_event ?hg (N := 3) ?hd (cs := #[.int .i64 a1_0, .slice A1_1 l1_1.length c1_1, .slice A1_2 l1_2.length c1_2, .bool a1_3]) (t := 24) ?hr ?_; (case hd => rfl); (case hg => rfl); (case hr => first | (go_simp; done) | (go_simp; rfl)); intro gb171 hg w24 hbox hb; have n0_ := Aside0.mk (blk_below (g := gb170) (o := .cells #[.int .i64 a0_0, .slice A0_1 l0_1.length c0_1, .slice A0_2 l0_2.length c0_2, .bool a0_3] 24 (0, 0)) (by (with_reducible repeat (first | refine blk_drewN ?_ _ | refine blk_drew ?_ | refine blk_alloc ?_ _)); exact BK170.out) hb); have n1_ := Aside0.mk (below_step (by repeat (first | (with_reducible first | exact HB.out | apply below_alloc | apply pw_below_drewN | apply below_drew1 | refine below_set ?_ GE170.out) | exact HB.out)) hb); have n2_ := Aside0.mk (hbox); have n3_ := Aside0.mk ((by rw [hg]; exact (below_size (by repeat (first | (with_reducible first | exact HB.out | apply below_alloc | apply pw_below_drewN | apply below_drew1 | refine below_set ?_ GE170.out) | exact HB.out))) : w.heap.size ≤ gb171)); have n4_ := Aside0.mk ((by rw [hg]; exact (below_size (by repeat (first | (with_reducible first | exact HB.out | apply below_alloc | apply pw_below_drewN | apply below_drew1 | refine below_set ?_ GE170.out) | exact HB.out))) : w.heap.size ≤ gb171)); have n5_ := Aside0.mk ((by rw [hg]; exact Nat.ne_of_lt (blk_lt (g := gb170) (o := .cells #[.int .i64 a0_0, .slice A0_1 l0_1.length c0_1, .slice A0_2 l0_2.length c0_2, .bool a0_3] 24 (0, 0)) (by (with_reducible repeat (first | refine blk_drewN ?_ _ | refine blk_drew ?_ | refine blk_alloc ?_ _)); exact BK170.out)) : gb170 ≠ gb171)); have n6_ := Aside0.mk ((by rw [hg]; exact Nat.ne_of_gt (blk_lt (g := gb170) (o := .cells #[.int .i64 a0_0, .slice A0_1 l0_1.length c0_1, .slice A0_2 l0_2.length c0_2, .bool a0_3] 24 (0, 0)) (by (with_reducible repeat (first | refine blk_drewN ?_ _ | refine blk_drew ?_ | refine blk_alloc ?_ _)); exact BK170.out)) : gb171 ≠ gb170)); clear BK170; clear HB; have BK170 := n0_; have HB := n1_; have BK171 := n2_; have GW171 := n3_; have GE171 := n4_; have NB170_171 := n5_; have NB171_170 := n6_; clear n0_ n1_ n2_ n3_ n4_ n5_ n6_; clear hb hbox hg; have hnb25 := NB170_171.out; have hnc25 := NB171_170.out; have hcz26_0 : w24.cell? ⟨gb170, 0, none⟩ = some (.int .i64 a0_0) := (blk_cell BK170.out 0).trans rfl; have hcz26_1 : w24.cell? ⟨gb170, 1, none⟩ = some (.slice A0_1 l0_1.length c0_1) := (blk_cell BK170.out 1).trans rfl; have hcz26_2 : w24.cell? ⟨gb170, 2, none⟩ = some (.slice A0_2 l0_2.length c0_2) := (blk_cell BK170.out 2).trans rfl; have hcz26_3 : w24.cell? ⟨gb170, 3, none⟩ = some (.bool a0_3) := (blk_cell BK170.out 3).trans rfl; have hfz26_0 := blk_frozen BK170.out 0; have hfz26_1 := blk_frozen BK170.out 1; have hfz26_2 := blk_frozen BK170.out 2; have hfz26_3 := blk_frozen BK170.out 3; have hcz27_0 : w24.cell? ⟨gb171, 0, none⟩ = some (.int .i64 a1_0) := (blk_cell BK171.out 0).trans rfl; have hcz27_1 : w24.cell? ⟨gb171, 1, none⟩ = some (.slice A1_1 l1_1.length c1_1) := (blk_cell BK171.out 1).trans rfl; have hcz27_2 : w24.cell? ⟨gb171, 2, none⟩ = some (.slice A1_2 l1_2.length c1_2) := (blk_cell BK171.out 2).trans rfl; have hcz27_3 : w24.cell? ⟨gb171, 3, none⟩ = some (.bool a1_3) := (blk_cell BK171.out 3).trans rfl; have hfz27_0 := blk_frozen BK171.out 0; have hfz27_1 := blk_frozen BK171.out 1; have hfz27_2 := blk_frozen BK171.out 2; have hfz27_3 := blk_frozen BK171.out 3))
    go_ret
    exact ⟨by first | rfl | (simp [errW_none, errW_some] <;> rfl) | (simp [*, errW_none, errW_some] <;> rfl), by repeat (first | (with_reducible first | exact HB.out | apply below_alloc | apply pw_below_drewN | apply below_drew1 | refine below_set ?_ GE170.out | refine below_set ?_ GE171.out) | exact HB.out)⟩

end Go.Proofs.YtponmfnegdlppaaDoor.P

end
section
-- Written by a program of this session (wip/tools/hprint.py, over the kit's printer), not by hand. Lean checks it.
namespace Go.Proofs.YtponmfnegdlppaaDoor.P
open Go.RowKit Go.Proofs.YtponmfnegdlppaaDoorW.PrintWords Go.Proofs.YtponmfnegdlppaaDoorW.PrintLast Go.Proofs.YtponmfnegdlppaaDoorW.PrintMore
attribute [local go_sem] max2_int min2_int max_two min_two max_three min_three max_four min_four
set_option linter.unusedVariables false
set_option linter.unusedSimpArgs false

/-! ### winnowlaw19_back: function 44 -/
def winnowlaw19_back.l0 : Nat → List (S38) → Int → Int → Option ((List (S38)))
  | 0, _, _, _ => none
  | k + 1, x0, x2, x3 => if x2 < x3 then (if 0 ≤ x2 then (if x2 < (x0.length : Int) then (if 0 ≤ x3 then (if x3 < (x0.length : Int) then (winnowlaw19_back.l0 k ((x0.set (x2 : Int).toNat (⟨(rd_T38 x0 x3).f0, (rd_T38 x0 x3).f1, (rd_T38 x0 x3).f2⟩ : S38)).set (x3 : Int).toNat (⟨(rd_T38 x0 x2).f0, (rd_T38 x0 x2).f1, (rd_T38 x0 x2).f2⟩ : S38)) (wrap64 (x2 + 1)) (wrap64 (x3 - 1))) else (none)) else (none)) else (none)) else (none)) else (some x0)
def winnowlaw19_back.f (k : Nat) (l0 : List (S38)) : Option ((List (S38))) := winnowlaw19_back.l0 k l0 0 (wrap64 ((l0.length : Int) - 1))
theorem winnowlaw19_back.mono_l : ∀ k, (∀ y0 y1 y2, LeO (winnowlaw19_back.l0 k y0 y1 y2) (winnowlaw19_back.l0 (k + 1) y0 y1 y2))
  | 0 => fun _ _ _ r h => by simp [winnowlaw19_back.l0] at h
  | k + 1 => by
    have ih0 := winnowlaw19_back.mono_l k
    · intro y0 y1 y2
      unfold winnowlaw19_back.l0
      repeat' first
      | (with_reducible exact ih0 _ _ _)
      | (with_reducible exact LeO.refl _)
      | (with_reducible exact LeO.none _)
      | (with_reducible refine LeO.ite ?_ ?_)
      | (with_reducible refine LeO.bind ?_ (fun _ => ?_))
      | exact ih0 _ _ _
      | exact LeO.none _
      | refine LeO.ite ?_ ?_
      | refine LeO.bind ?_ (fun _ => ?_)
theorem winnowlaw19_back.mono : ∀ a0 k, LeO (winnowlaw19_back.f k a0) (winnowlaw19_back.f (k + 1) a0) := by
  intro a0 k
  have ih0 := winnowlaw19_back.mono_l k
  unfold winnowlaw19_back.f
  repeat' first
      | (with_reducible exact ih0 _ _ _)
      | (with_reducible exact LeO.refl _)
      | (with_reducible exact LeO.none _)
      | (with_reducible refine LeO.ite ?_ ?_)
      | (with_reducible refine LeO.bind ?_ (fun _ => ?_))
      | exact ih0 _ _ _
      | exact LeO.none _
      | refine LeO.ite ?_ ?_
      | refine LeO.bind ?_ (fun _ => ?_)
set_option maxHeartbeats 8000000 in
set_option maxRecDepth 100000 in
theorem winnowlaw19_back.calls (k : Nat) (P0_ : Nat → Prop) (u9000_ : Value) (l0 : List (S38)) (r : List (S38)) (w0 w : World) (hB : Below w0.heap.size w0 w) (ho0 : Kd.R k38 38 w w0.heap.size P0_ u9000_ l0) (h : winnowlaw19_back.f k l0 = some r) :
    Calls Tryd.prog 44 #[u9000_] w fun e w' => e = .returned (.tuple #[]) ∧ Kd.R k38 38 w' w0.heap.size (fun k_ => (P0_ k_ ∨ w.heap.size ≤ k_)) u9000_ r ∧ Below w0.heap.size w0 w' ∧ Kept w w' (fun k_ => P0_ k_) := by
  have hu38 := Tryd.underlying38
  have HO0 := Aside0.mk (show Kd.R k38 38 w w0.heap.size (fun k_ => (P0_ k_ ∨ w.heap.size ≤ k_)) u9000_ l0 from Kd.R_mono ho0 (fun k_ hk => (.inl hk)))
  have HK := Aside0.mk (Kept.refl w (fun k_ => P0_ k_))
  have HW0 := Aside0.mk hB.size
  have HB := Aside0.mk hB
  clear hB
  have H : (winnowlaw19_back.l0 k l0 0 (wrap64 ((l0.length : Int) - 1))) = some r := h
  clear h
  have H' := Aside0.mk H
  clear H
  obtain ⟨Ao2, co2, eo2⟩ := Kd.R_slice HO0.out
  subst eo2
  go_enter Tryd.func44, Tryd.ntmps44
  go_wp2
  go_loopg [2, 3] k (fun kq v2 v3 w' => ∃ (x0_1 : List (S38)) (x2_1 : Int) (x3_1 : Int), v2 = .int .i64 x2_1 ∧ v3 = .int .i64 x3_1 ∧ Aside0 (winnowlaw19_back.l0 kq x0_1 x2_1 x3_1 = some r) ∧ Aside0 (kq ≤ k) ∧ Aside0 (Kd.R k38 38 w' w0.heap.size (fun k_ => (P0_ k_ ∨ w.heap.size ≤ k_)) (.slice Ao2 l0.length co2) x0_1) ∧ Aside0 (Kept w w' (fun k_ => P0_ k_)) ∧ Aside0 (Below w0.heap.size w0 w'))
  case atStart => exact ⟨(l0), (0), (wrap64 ((l0.length : Int) - 1)), (by first | rfl | (simp; done) | (simp [*]; done)), (by first | rfl | (simp; done) | (simp [*]; done)), H', ⟨Nat.le_refl _⟩, ⟨by (with_reducible repeat (first | apply Kd.R_alloc | apply Kd.R_drewN | apply Kd.R_drew)); exact HO0.out⟩, ⟨by repeat (first | (with_reducible first | exact HK.out | apply Kept.alloc | apply Kept.drewN | apply Kept.drew) | exact HK.out)⟩, ⟨by repeat (first | (with_reducible first | exact HB.out | apply below_alloc | apply pw_below_drewN | apply below_drew1) | exact HB.out)⟩⟩
  case round =>
    clear H'
    try clear p2
    obtain ⟨x0_1, x2_1, x3_1, rfl, rfl, HA, HK1, HO_0, HK, HB⟩ := hrel
    have hl0_1 := (Kd.R_reads' HO_0.out).1
    rw [hl0_1] at HO_0
    (try simp only [hl0_1])
    cases gk with
    | zero => exact absurd HA.out (by simp [winnowlaw19_back.l0])
    | succ k1 =>
      have H := HA.out
      clear HA
      simp only [winnowlaw19_back.l0] at H
      by_cases c3 : x2_1 < x3_1
      · rw [if_pos c3] at H
        have c3b0 : decide (x2_1 < x3_1) = true := decide_eq_true c3
        clear c3
        by_cases c4 : 0 ≤ x2_1
        · rw [if_pos c4] at H
          have c4b0 : decide (0 ≤ x2_1) = true := decide_eq_true c4
          clear c4
          by_cases c5 : x2_1 < (x0_1.length : Int)
          · rw [if_pos c5] at H
            have c5b0 : decide (x2_1 < (x0_1.length : Int)) = true := decide_eq_true c5
            clear c5
            by_cases c6 : 0 ≤ x3_1
            · rw [if_pos c6] at H
              have c6b0 : decide (0 ≤ x3_1) = true := decide_eq_true c6
              clear c6
              by_cases c7 : x3_1 < (x0_1.length : Int)
              · rw [if_pos c7] at H
                have c7b0 : decide (x3_1 < (x0_1.length : Int)) = true := decide_eq_true c7
                clear c7
                obtain ⟨y195, hy195⟩ : ∃ y_ : List (S38), y_ = (x0_1.set (x2_1 : Int).toNat (⟨(rd_T38 x0_1 x3_1).f0, (rd_T38 x0_1 x3_1).f1, (rd_T38 x0_1 x3_1).f2⟩ : S38)) := ⟨_, rfl⟩
                replace H : (winnowlaw19_back.l0 k1 (y195.set (x3_1 : Int).toNat (⟨(rd_T38 x0_1 x2_1).f0, (rd_T38 x0_1 x2_1).f1, (rd_T38 x0_1 x2_1).f2⟩ : S38)) (wrap64 (x2_1 + 1)) (wrap64 (x3_1 - 1))) = some r := by first | (rw [hy195]; with_reducible exact H) | (have H2_ := (Option.bind_some _ _).symm.trans H; rw [hy195]; with_reducible exact H2_) | (have H2_ := (Option.bind_some _ _).symm.trans H; with_reducible exact H2_) | with_reducible exact H | (rw [hy195]; exact H) | exact H
                have Ny195 := Aside0.mk hy195
                clear hy195
                obtain ⟨y196, hy196⟩ : ∃ y_ : List (S38), y_ = (y195.set (x3_1 : Int).toNat (⟨(rd_T38 x0_1 x2_1).f0, (rd_T38 x0_1 x2_1).f1, (rd_T38 x0_1 x2_1).f2⟩ : S38)) := ⟨_, rfl⟩
                replace H : (winnowlaw19_back.l0 k1 y196 (wrap64 (x2_1 + 1)) (wrap64 (x3_1 - 1))) = some r := by first | (rw [hy196]; with_reducible exact H) | (have H2_ := (Option.bind_some _ _).symm.trans H; rw [hy196]; with_reducible exact H2_) | (have H2_ := (Option.bind_some _ _).symm.trans H; with_reducible exact H2_) | with_reducible exact H | (rw [hy196]; exact H) | exact H
                have Ny196 := Aside0.mk hy196
                clear hy196
                have H' := Aside0.mk H
                clear H
                have p192 : 0 ≤ (x2_1 : Int) := of_decide_eq_true (by first | (with_reducible assumption) | assumption)
                have q192 : x2_1 < (x0_1.length : Int) := of_decide_eq_true (by first | (with_reducible assumption) | assumption)
                obtain ⟨ad192, e192, hx192_0, hx192_1, hx192_2⟩ := at_T38 (Kd.R_reads' HO_0.out).2.2 x2_1 p192 q192
                cases e192
                replace p192 := eq_true p192
                replace q192 := eq_true q192
                go_wp2_with (first | ((with_reducible refine gate_dst (N := 4) rfl ?_); refine box_event ?hg (N := 4) ?hd (cs := #[.int .i64 0, .int .i64 0, .int .i64 0]) (t := 38) ?hr ?_; (case hd => rfl); (case hg => rfl); (case hr => first | (go_simp; done) | (go_simp; rfl)); intro gb193 hg w10 hbox hb; have n0_ := Aside0.mk (Kd.R_below (Kd.R_elderB (by (with_reducible repeat (first | apply Kd.R_alloc | apply Kd.R_drewN | apply Kd.R_drew)); exact HO_0.out) gb193 (Nat.le_of_eq hg.symm)) hb); have n1_ := Aside0.mk (Kept.below (S := (fun k_ => P0_ k_)) (by repeat (first | (with_reducible first | exact HK.out | apply Kept.alloc | apply Kept.drewN | apply Kept.drew) | exact HK.out)) hb); have n2_ := Aside0.mk (below_step (by repeat (first | (with_reducible first | exact HB.out | apply below_alloc | apply pw_below_drewN | apply below_drew1) | exact HB.out)) hb); have n3_ := Aside0.mk (hbox); have n4_ := Aside0.mk ((by rw [hg]; exact (by first | exact HK.out.1 | exact (show Kept w _ (fun k_ => P0_ k_) from by repeat (first | (with_reducible first | exact HK.out | apply Kept.alloc | apply Kept.drewN | apply Kept.drew) | exact HK.out)).1) : w.heap.size ≤ gb193)); have n5_ := Aside0.mk ((by rw [hg]; exact (below_size (by repeat (first | (with_reducible first | exact HB.out | apply below_alloc | apply pw_below_drewN | apply below_drew1) | exact HB.out))) : w0.heap.size ≤ gb193)); clear HO_0; clear HK; clear HB; have HO_0 := n0_; have HK := n1_; have HB := n2_; have BK193 := n3_; have GW193 := n4_; have GE193 := n5_; clear n0_ n1_ n2_ n3_ n4_ n5_; clear hb hbox hg; have hcz11_0 : w10.cell? ⟨gb193, 0, none⟩ = some (.int .i64 0) := (blk_cell BK193.out 0).trans rfl; have hcz11_1 : w10.cell? ⟨gb193, 1, none⟩ = some (.int .i64 0) := (blk_cell BK193.out 1).trans rfl; have hcz11_2 : w10.cell? ⟨gb193, 2, none⟩ = some (.int .i64 0) := (blk_cell BK193.out 2).trans rfl; have hfz11_0 := blk_frozen BK193.out 0; have hfz11_1 := blk_frozen BK193.out 1; have hfz11_2 := blk_frozen BK193.out 2) | ((with_reducible refine gate_store (t := 38) (p := 4) rfl ?_); refine store_event (t := 38) (p := 4) (v := ?vo_w12) (w1 := (((w10.setCell ⟨gb193, 0, none⟩ (.int .i64 ((rd_T38 x0_1 x2_1).f0))).setCell ⟨gb193, 1, none⟩ (.int .i64 ((rd_T38 x0_1 x2_1).f1))).setCell ⟨gb193, 2, none⟩ (.int .i64 ((rd_T38 x0_1 x2_1).f2)))) ?hg ?ho ?hn ?hr ?_; (case ho => rfl); (case hg => rfl); (case hn => rfl); (case hr => first | (go_simp; done) | (go_simp; rfl)); intro w12 hw; have n0_ : Aside0 (Kd.R k38 38 w12 w0.heap.size (fun k_ => (P0_ k_ ∨ w.heap.size ≤ k_) ∧ k_ ≠ gb193) (.slice (some ad192) x0_1.length co2) x0_1) := ⟨(by rw [hw]; exact (by (with_reducible repeat (first | apply Kd.R_alloc | apply Kd.R_drewN | apply Kd.R_drew)); exact Kd.R_mono (Kd.R_far (p := ⟨gb193, 2, none⟩) (Kd.R_far (p := ⟨gb193, 1, none⟩) (Kd.R_far (p := ⟨gb193, 0, none⟩) (Kd.R_mono HO_0.out (fun k_ hk => (⟨hk, hk.2⟩ : _ ∧ k_ ≠ gb193))) (fun _ hk => hk.2) (.int .i64 ((rd_T38 x0_1 x2_1).f0))) (fun _ hk => hk.2) (.int .i64 ((rd_T38 x0_1 x2_1).f1))) (fun _ hk => hk.2) (.int .i64 ((rd_T38 x0_1 x2_1).f2))) (fun _ hk => ⟨hk.1.1, hk.1.2⟩)))⟩; have n1_ : Aside0 (w12.heap[gb193]? = some (.cells #[.int .i64 ((rd_T38 x0_1 x2_1).f0), .int .i64 ((rd_T38 x0_1 x2_1).f1), .int .i64 ((rd_T38 x0_1 x2_1).f2)] 38 (0, 0))) := ⟨(by rw [hw]; exact (by (with_reducible repeat (first | refine blk_drewN ?_ _ | refine blk_drew ?_ | refine blk_alloc ?_ _)); refine blk_put (cs := #[.int .i64 ((rd_T38 x0_1 x2_1).f0), .int .i64 ((rd_T38 x0_1 x2_1).f1), .int .i64 0]) ?_ 2 _ rfl; (with_reducible repeat (first | refine blk_drewN ?_ _ | refine blk_drew ?_ | refine blk_alloc ?_ _)); refine blk_put (cs := #[.int .i64 ((rd_T38 x0_1 x2_1).f0), .int .i64 0, .int .i64 0]) ?_ 1 _ rfl; (with_reducible repeat (first | refine blk_drewN ?_ _ | refine blk_drew ?_ | refine blk_alloc ?_ _)); refine blk_put (cs := #[.int .i64 0, .int .i64 0, .int .i64 0]) ?_ 0 _ rfl; (with_reducible repeat (first | refine blk_drewN ?_ _ | refine blk_drew ?_ | refine blk_alloc ?_ _)); exact BK193.out))⟩; have n2_ : Aside0 (Kept w w12 (fun k_ => P0_ k_)) := ⟨(by rw [hw]; exact (by repeat (first | (with_reducible first | exact HK.out | apply Kept.alloc | apply Kept.drewN | apply Kept.drew | refine Kept.setCell ?_ (.inr GW193.out) _) | exact HK.out)))⟩; have n3_ : Aside0 (Below w0.heap.size w0 w12) := ⟨(by rw [hw]; exact (by repeat (first | (with_reducible first | exact HB.out | apply below_alloc | apply pw_below_drewN | apply below_drew1 | refine below_set ?_ GE193.out) | exact HB.out)))⟩; clear hw; clear HO_0; clear BK193; clear HK; clear HB; have HO_0 := n0_; have BK193 := n1_; have HK := n2_; have HB := n3_; clear n0_ n1_ n2_ n3_; have p194 : 0 ≤ (x3_1 : Int) := of_decide_eq_true (by first | (with_reducible assumption) | assumption); have q194 : x3_1 < (x0_1.length : Int) := of_decide_eq_true (by first | (with_reducible assumption) | assumption); obtain ⟨ad194, e194, hx194_0, hx194_1, hx194_2⟩ := at_T38 (Kd.R_reads' HO_0.out).2.2 x3_1 p194 q194; obtain rfl : ad192 = ad194 := (by injection e194); replace p194 := eq_true p194; replace q194 := eq_true q194; have p8 : 0 ≤ (x2_1 : Int) := of_decide_eq_true (by first | (with_reducible assumption) | assumption); have q8 : (x2_1 : Int) < ((x0_1.length : Int) : Int) := of_decide_eq_true (by first | (with_reducible assumption) | assumption); obtain ⟨go8, co8, eo8, gb8, gl8, cl8, HG8⟩ := Kd.R_form HO_0.out (by omega); (first | cases eo8 | (injection eo8 with ea_ en_ ec_; (first | subst ea_ | (injection ea_ with ea_; subst ea_)); subst ec_; clear en_)); have GB8 := Aside0.mk gb8; have GG8 := Aside0.mk HG8; clear gb8 gl8 HG8; have HMgo8 := Aside0.mk (show (P0_ go8 ∨ w.heap.size ≤ go8) from (HO_0.out.1 _ rfl).1); (first | simp only [add_plain] at hx192_0 | skip); (first | simp only [add_plain] at hx192_1 | skip); (first | simp only [add_plain] at hx192_2 | skip); (first | simp only [add_plain] at hx194_0 | skip); (first | simp only [add_plain] at hx194_1 | skip); (first | simp only [add_plain] at hx194_2 | skip); obtain ⟨ce8, hcl8, hM8, hcc8, hfr8⟩ := Kd.R_elem HO_0.out z38 (x2_1 : Int) p8 q8; obtain rfl := k38_openM hM8; have hx8_0 : w12.cell? ⟨go8, (x2_1 : Int).toNat * 3, none⟩ = some (.int .i64 ((rd_T38 x0_1 x2_1).f0)) := hcc8 0 _ rfl; have hx8_1 : w12.cell? ⟨go8, (x2_1 : Int).toNat * 3 + 1, none⟩ = some (.int .i64 ((rd_T38 x0_1 x2_1).f1)) := hcc8 1 _ rfl; have hx8_2 : w12.cell? ⟨go8, (x2_1 : Int).toNat * 3 + 2, none⟩ = some (.int .i64 ((rd_T38 x0_1 x2_1).f2)) := hcc8 2 _ rfl; have hf8_0 : w12.frozen? ⟨go8, (x2_1 : Int).toNat * 3, none⟩ = false := hfr8 0; have hf8_1 : w12.frozen? ⟨go8, (x2_1 : Int).toNat * 3 + 1, none⟩ = false := hfr8 1; have hf8_2 : w12.frozen? ⟨go8, (x2_1 : Int).toNat * 3 + 2, none⟩ = false := hfr8 2; clear hcl8 hcc8 hfr8 hM8; replace p8 := eq_true p8; replace q8 := eq_true q8; have HX13 := Aside0.mk (show Kd.R k38 38 w12 w0.heap.size (fun k_ => (P0_ k_ ∨ w.heap.size ≤ k_) ∧ k_ ≠ gb193) (.slice (some ⟨go8, 0, none⟩) x0_1.length co2) x0_1 from (by (with_reducible repeat (first | apply Kd.R_alloc | apply Kd.R_drewN | apply Kd.R_drew)); exact HO_0.out)); obtain ⟨ce13, hcl13, hM13, hcc13, hfr13⟩ := Kd.R_elem HX13.out z38 (x2_1 : Int) (of_decide_eq_true (by first | (with_reducible assumption) | assumption)) (by have h_ : (x2_1 : Int) < ((x0_1.length : Int) : Int) := of_decide_eq_true (by first | (with_reducible assumption) | assumption); first | exact h_ | (have e_ := (Kd.R_reads' HO_0.out).1; omega) | simpa using h_); obtain rfl := k38_openM hM13; have HP13 := Kd.R_seg HX13.out (x2_1 : Int) (of_decide_eq_true (by first | (with_reducible assumption) | assumption)) (by have h_ : (x2_1 : Int) < ((x0_1.length : Int) : Int) := of_decide_eq_true (by first | (with_reducible assumption) | assumption); first | exact h_ | (have e_ := (Kd.R_reads' HO_0.out).1; omega) | simpa using h_) (seg := [.int .i64 ((rd_T38 x0_1 x3_1).f0), .int .i64 ((rd_T38 x0_1 x3_1).f1), .int .i64 ((rd_T38 x0_1 x3_1).f2)]) (j := 0) hcl13 hcc13 (show 3 ≤ 3 from by decide) (x' := (⟨(rd_T38 x0_1 x3_1).f0, (rd_T38 x0_1 x3_1).f1, (rd_T38 x0_1 x3_1).f2⟩ : S38)) (k38_mkM _ _ _ (⟨(rd_T38 x0_1 x3_1).f0, (rd_T38 x0_1 x3_1).f1, (rd_T38 x0_1 x3_1).f2⟩ : S38) ) (fun _ hk => hk); have hx13_0 := hcc13 0 _ rfl; (try simp only [show (k38).sz = 3 from rfl, Nat.mul_one, Nat.add_zero] at hx13_0); have hf13_0 := hfr13 0; (try simp only [show (k38).sz = 3 from rfl, Nat.mul_one, Nat.add_zero] at hf13_0); have hx13_1 := hcc13 1 _ rfl; (try simp only [show (k38).sz = 3 from rfl, Nat.mul_one, Nat.add_zero] at hx13_1); have hf13_1 := hfr13 1; (try simp only [show (k38).sz = 3 from rfl, Nat.mul_one, Nat.add_zero] at hf13_1); have hx13_2 := hcc13 2 _ rfl; (try simp only [show (k38).sz = 3 from rfl, Nat.mul_one, Nat.add_zero] at hx13_2); have hf13_2 := hfr13 2; (try simp only [show (k38).sz = 3 from rfl, Nat.mul_one, Nat.add_zero] at hf13_2); clear hcl13 hcc13 hfr13 hM13) | ((with_reducible refine gate_store (t := 38) (p := 25) rfl ?_); refine store_event (t := 38) (p := 25) (v := ?vo_w14) (w1 := (((w12.setCell ⟨go8, (x2_1 : Int).toNat * 3, none⟩ (.int .i64 ((rd_T38 x0_1 x3_1).f0))).setCell ⟨go8, (x2_1 : Int).toNat * 3 + 1, none⟩ (.int .i64 ((rd_T38 x0_1 x3_1).f1))).setCell ⟨go8, (x2_1 : Int).toNat * 3 + 2, none⟩ (.int .i64 ((rd_T38 x0_1 x3_1).f2)))) ?hg ?ho ?hn ?hr ?_; (case ho => rfl); (case hg => rfl); (case hn => rfl); (case hr => first | (go_simp; done) | (go_simp; rfl)); intro w14 hw; have hg : w12.grownBy w14 (some go8) := (by rw [hw]; exact HP13.2); have hp_ : Kd.R k38 38 w14 w0.heap.size (fun k_ => (P0_ k_ ∨ w.heap.size ≤ k_) ∧ k_ ≠ gb193) (.slice (some ⟨go8, 0, none⟩) x0_1.length co2) y195 := (by rw [hw, Ny195.out]; exact HP13.1); clear HP13; have n0_ := Aside0.mk (hp_); have n1_ := Aside0.mk (blk_grown (g := gb193) (o := .cells #[.int .i64 ((rd_T38 x0_1 x2_1).f0), .int .i64 ((rd_T38 x0_1 x2_1).f1), .int .i64 ((rd_T38 x0_1 x2_1).f2)] 38 (0, 0)) (by (with_reducible repeat (first | refine blk_drewN ?_ _ | refine blk_drew ?_ | refine blk_alloc ?_ _)); exact BK193.out) hg (Kd.R_away HO_0.out (fun _ hk => hk.2))); have n2_ := Aside0.mk ((by rw [hw]; exact below_set (below_set (below_set (HB.out) GB8.out) GB8.out) GB8.out : Below w0.heap.size w0 w14)); have n3_ := Aside0.mk (Kept.of_grown (S := (fun k_ => P0_ k_)) hg (by repeat (first | (with_reducible first | exact HK.out | apply Kept.alloc | apply Kept.drewN | apply Kept.drew | refine Kept.setCell ?_ (.inr GW193.out) _) | exact HK.out)) (fun k_ e_ => (HO_0.out.1 k_ e_).1)); clear HO_0; clear BK193; clear HB; clear HK; have HO_0 := n0_; have BK193 := n1_; have HB := n2_; have HK := n3_; clear n0_ n1_ n2_ n3_; clear hg hw hp_; have hcz15_0 : w14.cell? ⟨gb193, 0, none⟩ = some (.int .i64 ((rd_T38 x0_1 x2_1).f0)) := (blk_cell BK193.out 0).trans rfl; have hcz15_1 : w14.cell? ⟨gb193, 1, none⟩ = some (.int .i64 ((rd_T38 x0_1 x2_1).f1)) := (blk_cell BK193.out 1).trans rfl; have hcz15_2 : w14.cell? ⟨gb193, 2, none⟩ = some (.int .i64 ((rd_T38 x0_1 x2_1).f2)) := (blk_cell BK193.out 2).trans rfl; have hfz15_0 := blk_frozen BK193.out 0; have hfz15_1 := blk_frozen BK193.out 1; have hfz15_2 := blk_frozen BK193.out 2; have p9 : 0 ≤ (x3_1 : Int) := of_decide_eq_true (by first | (with_reducible assumption) | assumption); have q9 : (x3_1 : Int) < ((x0_1.length : Int) : Int) := of_decide_eq_true (by first | (with_reducible assumption) | assumption); obtain ⟨ce9, hcl9, hM9, hcc9, hfr9⟩ := Kd.R_elem HO_0.out z38 (x3_1 : Int) p9 q9; obtain rfl := k38_openM hM9; have hx9_0 : w14.cell? ⟨go8, (x3_1 : Int).toNat * 3, none⟩ = some (.int .i64 ((rd_T38 y195 x3_1).f0)) := hcc9 0 _ rfl; have hx9_1 : w14.cell? ⟨go8, (x3_1 : Int).toNat * 3 + 1, none⟩ = some (.int .i64 ((rd_T38 y195 x3_1).f1)) := hcc9 1 _ rfl; have hx9_2 : w14.cell? ⟨go8, (x3_1 : Int).toNat * 3 + 2, none⟩ = some (.int .i64 ((rd_T38 y195 x3_1).f2)) := hcc9 2 _ rfl; have hf9_0 : w14.frozen? ⟨go8, (x3_1 : Int).toNat * 3, none⟩ = false := hfr9 0; have hf9_1 : w14.frozen? ⟨go8, (x3_1 : Int).toNat * 3 + 1, none⟩ = false := hfr9 1; have hf9_2 : w14.frozen? ⟨go8, (x3_1 : Int).toNat * 3 + 2, none⟩ = false := hfr9 2; clear hcl9 hcc9 hfr9 hM9; replace p9 := eq_true p9; replace q9 := eq_true q9; have HX16 := Aside0.mk (show Kd.R k38 38 w14 w0.heap.size (fun k_ => (P0_ k_ ∨ w.heap.size ≤ k_) ∧ k_ ≠ gb193) (.slice (some ⟨go8, 0, none⟩) x0_1.length co2) y195 from (by (with_reducible repeat (first | apply Kd.R_alloc | apply Kd.R_drewN | apply Kd.R_drew)); exact HO_0.out)); obtain ⟨ce16, hcl16, hM16, hcc16, hfr16⟩ := Kd.R_elem HX16.out z38 (x3_1 : Int) (of_decide_eq_true (by first | (with_reducible assumption) | assumption)) (by have h_ : (x3_1 : Int) < ((x0_1.length : Int) : Int) := of_decide_eq_true (by first | (with_reducible assumption) | assumption); first | exact h_ | (have e_ := (Kd.R_reads' HO_0.out).1; omega) | simpa using h_); obtain rfl := k38_openM hM16; have HP16 := Kd.R_seg HX16.out (x3_1 : Int) (of_decide_eq_true (by first | (with_reducible assumption) | assumption)) (by have h_ : (x3_1 : Int) < ((x0_1.length : Int) : Int) := of_decide_eq_true (by first | (with_reducible assumption) | assumption); first | exact h_ | (have e_ := (Kd.R_reads' HO_0.out).1; omega) | simpa using h_) (seg := [.int .i64 ((rd_T38 x0_1 x2_1).f0), .int .i64 ((rd_T38 x0_1 x2_1).f1), .int .i64 ((rd_T38 x0_1 x2_1).f2)]) (j := 0) hcl16 hcc16 (show 3 ≤ 3 from by decide) (x' := (⟨(rd_T38 x0_1 x2_1).f0, (rd_T38 x0_1 x2_1).f1, (rd_T38 x0_1 x2_1).f2⟩ : S38)) (k38_mkM _ _ _ (⟨(rd_T38 x0_1 x2_1).f0, (rd_T38 x0_1 x2_1).f1, (rd_T38 x0_1 x2_1).f2⟩ : S38) ) (fun _ hk => hk); have hx16_0 := hcc16 0 _ rfl; (try simp only [show (k38).sz = 3 from rfl, Nat.mul_one, Nat.add_zero] at hx16_0); have hf16_0 := hfr16 0; (try simp only [show (k38).sz = 3 from rfl, Nat.mul_one, Nat.add_zero] at hf16_0); have hx16_1 := hcc16 1 _ rfl; (try simp only [show (k38).sz = 3 from rfl, Nat.mul_one, Nat.add_zero] at hx16_1); have hf16_1 := hfr16 1; (try simp only [show (k38).sz = 3 from rfl, Nat.mul_one, Nat.add_zero] at hf16_1); have hx16_2 := hcc16 2 _ rfl; (try simp only [show (k38).sz = 3 from rfl, Nat.mul_one, Nat.add_zero] at hx16_2); have hf16_2 := hfr16 2; (try simp only [show (k38).sz = 3 from rfl, Nat.mul_one, Nat.add_zero] at hf16_2); clear hcl16 hcc16 hfr16 hM16) | ((with_reducible refine gate_store (t := 38) (p := 29) rfl ?_); refine store_event (t := 38) (p := 29) (v := ?vo_w17) (w1 := (((w14.setCell ⟨go8, (x3_1 : Int).toNat * 3, none⟩ (.int .i64 ((rd_T38 x0_1 x2_1).f0))).setCell ⟨go8, (x3_1 : Int).toNat * 3 + 1, none⟩ (.int .i64 ((rd_T38 x0_1 x2_1).f1))).setCell ⟨go8, (x3_1 : Int).toNat * 3 + 2, none⟩ (.int .i64 ((rd_T38 x0_1 x2_1).f2)))) ?hg ?ho ?hn ?hr ?_; (case ho => rfl); (case hg => rfl); (case hn => rfl); (case hr => first | (go_simp; done) | (go_simp; rfl)); intro w17 hw; have hg : w14.grownBy w17 (some go8) := (by rw [hw]; exact HP16.2); have hp_ : Kd.R k38 38 w17 w0.heap.size (fun k_ => (P0_ k_ ∨ w.heap.size ≤ k_) ∧ k_ ≠ gb193) (.slice (some ⟨go8, 0, none⟩) x0_1.length co2) y196 := (by rw [hw, Ny196.out]; exact HP16.1); clear HP16; have n0_ := Aside0.mk (hp_); have n1_ := Aside0.mk (blk_grown (g := gb193) (o := .cells #[.int .i64 ((rd_T38 x0_1 x2_1).f0), .int .i64 ((rd_T38 x0_1 x2_1).f1), .int .i64 ((rd_T38 x0_1 x2_1).f2)] 38 (0, 0)) (by (with_reducible repeat (first | refine blk_drewN ?_ _ | refine blk_drew ?_ | refine blk_alloc ?_ _)); exact BK193.out) hg (Kd.R_away HO_0.out (fun _ hk => hk.2))); have n2_ := Aside0.mk ((by rw [hw]; exact below_set (below_set (below_set (HB.out) GB8.out) GB8.out) GB8.out : Below w0.heap.size w0 w17)); have n3_ := Aside0.mk (Kept.of_grown (S := (fun k_ => P0_ k_)) hg (by repeat (first | (with_reducible first | exact HK.out | apply Kept.alloc | apply Kept.drewN | apply Kept.drew | refine Kept.setCell ?_ (.inr GW193.out) _) | exact HK.out)) (fun k_ e_ => (HO_0.out.1 k_ e_).1)); clear HO_0; clear BK193; clear HB; clear HK; have HO_0 := n0_; have BK193 := n1_; have HB := n2_; have HK := n3_; clear n0_ n1_ n2_ n3_; clear hg hw hp_))
                (try simp only [← hl0_1])
                go_roundg k1
                case measure => have := HK1.out; omega
                case rel => exact ⟨(y196), (wrap64 (x2_1 + 1)), (wrap64 (x3_1 - 1)), (by first | rfl | (simp; done) | (simp [*]; done)), (by first | rfl | (simp; done) | (simp [*]; done)), H', ⟨by have := HK1.out; omega⟩, ⟨by (try simp only [hl0_1]); (with_reducible repeat (first | apply Kd.R_alloc | apply Kd.R_drewN | apply Kd.R_drew)); exact Kd.R_mono HO_0.out (fun _ hk => hk.1)⟩, ⟨by repeat (first | (with_reducible first | exact HK.out | apply Kept.alloc | apply Kept.drewN | apply Kept.drew | refine Kept.setCell ?_ (.inr GW193.out) _) | exact HK.out)⟩, ⟨by repeat (first | (with_reducible first | exact HB.out | apply below_alloc | apply pw_below_drewN | apply below_drew1 | refine below_set ?_ GE193.out) | exact HB.out)⟩⟩
              · rw [if_neg c7] at H
                exact absurd H (by simp)
            · rw [if_neg c6] at H
              exact absurd H (by simp)
          · rw [if_neg c5] at H
            exact absurd H (by simp)
        · rw [if_neg c4] at H
          exact absurd H (by simp)
      · rw [if_neg c3] at H
        have c3b0 : decide (x2_1 < x3_1) = false := decide_eq_false c3
        clear c3
        obtain rfl := Option.some.inj H
        go_wp2
        first | go_end0 | ((try simp only [Exit.inBlock, Exit.then]); refine bodyPost_ret (results_none rfl _ _ _) rfl ?_)
        exact ⟨by first | rfl | (simp [errW_none, errW_some] <;> rfl) | (simp [*, errW_none, errW_some] <;> rfl), (by first | exact (by (with_reducible repeat (first | apply Kd.R_alloc | apply Kd.R_drewN | apply Kd.R_drew)); exact HO_0.out) | (simp only [hl0_1]; exact (by (with_reducible repeat (first | apply Kd.R_alloc | apply Kd.R_drewN | apply Kd.R_drew)); exact HO_0.out))), by repeat (first | (with_reducible first | exact HB.out | apply below_alloc | apply pw_below_drewN | apply below_drew1) | exact HB.out), by repeat (first | (with_reducible first | exact HK.out | apply Kept.alloc | apply Kept.drewN | apply Kept.drew) | exact HK.out)⟩

end Go.Proofs.YtponmfnegdlppaaDoor.P

end
section
/- given, turned, kept: contracts by hand (printed by HGiven.gen.py). -/
namespace Go.Proofs.YtponmfnegdlppaaDoor.P
open Go.RowKit Go.Proofs.YtponmfnegdlppaaDoorW.PrintWords Go.Proofs.YtponmfnegdlppaaDoorW.PrintLast Go.Proofs.YtponmfnegdlppaaDoorW.PrintMore
set_option linter.unusedVariables false
set_option linter.unusedSimpArgs false

theorem wrap_succG (i : Nat) (h : i ≤ 9000000000000000000) : wrap64 ((i : Int) + 1) = ((i + 1 : Nat) : Int) := by unfold wrap64; omega
def marks : List S38 := List.replicate 64 ⟨7001, 5, 0⟩
theorem len_marks (l : List S38) : (l ++ marks).length = l.length + 64 := by simp [marks]
theorem take_set (L : List S38) (i d : Nat) (h : i < L.length) (x : S38) : (L.take i ++ List.replicate (d + 1) z38).set i x = L.take i ++ x :: List.replicate d z38 := by
  rw [List.set_append_right _ _ (by rw [List.length_take]; omega), List.length_take, Nat.min_eq_left (by omega), Nat.sub_self, List.replicate_succ, List.set_cons_zero]
theorem set_same (L : List S38) (i d : Nat) (h : i < L.length) (x y : S38) : (L.take i ++ x :: List.replicate d z38).set i y = L.take i ++ y :: List.replicate d z38 := by
  rw [List.set_append_right _ _ (by rw [List.length_take]; omega), List.length_take, Nat.min_eq_left (by omega), Nat.sub_self, List.set_cons_zero]
theorem take_more (L : List S38) (i d : Nat) (h : i < L.length) : L.take i ++ L[i] :: List.replicate d z38 = L.take (i + 1) ++ List.replicate d z38 := by
  rw [List.take_succ_eq_append_getElem h, List.append_assoc]; rfl
theorem roomyW_loop (l : List S38) (hl : l.length ≤ 6000000000000) : ∀ (d k i : Nat), i + d = l.length + 64 → d < k → roomyW.l0 k l ((l ++ marks).take i ++ List.replicate d z38) (i : Int) = some (l ++ marks) := by
  intro d
  induction d with
  | zero =>
    intro k i hi hk
    obtain ⟨k, rfl⟩ : ∃ m, k = m + 1 := ⟨k - 1, by omega⟩
    have hm := len_marks l
    rw [roomyW.l0, List.replicate_zero, List.append_nil, List.take_of_length_le (by omega), if_neg (by omega)]
  | succ d ih =>
    intro k i hi hk
    obtain ⟨k, rfl⟩ : ∃ m, k = m + 1 := ⟨k - 1, by omega⟩
    have hm := len_marks l
    have hz : ((l ++ marks).take i ++ List.replicate (d + 1) z38).length = l.length + 64 := by rw [List.length_append, List.length_take, List.length_replicate]; omega
    rw [roomyW.l0, if_pos (by omega), if_pos (by omega), Option.bind_some, Int.toNat_natCast, take_set _ _ _ (by omega), wrap_succG i (by omega)]
    by_cases h1 : (i : Int) < (l.length : Int)
    · rw [if_pos h1, set_same _ _ _ (by omega), rd38 l i (by omega)]
      have e : (⟨l[i].f0, l[i].f1, l[i].f2⟩ : S38) = (l ++ marks)[i]'(by omega) := by rw [List.getElem_append_left (by omega)]
      rw [e, take_more _ _ _ (by omega)]
      exact ih k (i + 1) (by omega) (by omega)
    · rw [if_neg h1]
      have e : (⟨7001, 5, 0⟩ : S38) = (l ++ marks)[i]'(by omega) := by
        rw [List.getElem_append_right (by omega)]
        unfold marks
        rw [List.getElem_replicate]
      rw [e, take_more _ _ _ (by omega)]
      exact ih k (i + 1) (by omega) (by omega)
theorem roomyW_eq (l : List S38) (hl : l.length ≤ 6000000000000) (k : Nat) (hk : l.length + 64 < k) : roomyW.f k l = some (l ++ marks) := by
  have hw : wrap64 ((l.length : Int) + 64) = ((l.length + 64 : Nat) : Int) := by unfold wrap64; omega
  unfold roomyW.f
  rw [hw, if_pos (by omega), Int.toNat_natCast, if_pos (by omega)]
  exact roomyW_loop l hl (l.length + 64) k 0 (by omega) (by omega)
/-- states in new memory, marks behind them -/
theorem roomy_any (A0 : Option Addr) (c0 : Nat) (l0 : List S38) (w : World) (hr0 : Kd.C k38 w A0 l0.length l0) (hc0 : l0.length ≤ c0) (hl : l0.length ≤ 6000000000000) :
    Calls Tryd.prog 39 #[.slice A0 l0.length c0] w fun e w' => ∃ A c, e = .returned (.slice A l0.length c) ∧ (l0 ++ marks).length ≤ c ∧ Kd.R k38 38 w' w.heap.size (fun _ => True) (.slice A (l0 ++ marks).length c) (l0 ++ marks) ∧ Below w.heap.size w w' :=
  roomy_sharp _ A0 c0 l0 (l0 ++ marks) w hr0 hc0 (roomyW_eq l0 hl _ (Nat.lt_succ_self _)) (by rw [len_marks]; omega)
set_option maxHeartbeats 4000000 in
set_option maxRecDepth 100000 in
theorem given_any (t : Int) (fl : Bool) (A0 : Option Addr) (c0 : Nat) (l0 : List S38) (A1 : Option Addr) (c1 : Nat) (l1 : List S38) (w : World) (hC0 : Kd.C k38 w A0 l0.length l0) (hc0 : l0.length ≤ c0) (hC1 : Kd.C k38 w A1 l1.length l1) (hc1 : l1.length ≤ c1) (hl0 : l0.length ≤ 6000000000000) (hl1 : l1.length ≤ 6000000000000) :
    Calls Tryd.prog 10 #[.agg #[.int .i64 t, .slice A0 l0.length c0, .slice A1 l1.length c1, .bool fl]] w fun e w' => ∃ D0 d0 D1 d1, e = .returned (.agg #[.int .i64 t, .slice D0 l0.length d0, .slice D1 l1.length d1, .bool fl]) ∧ l0.length + 64 ≤ d0 ∧ l1.length + 64 ≤ d1 ∧
      Kd.R k38 38 w' w.heap.size (fun k => some k ≠ (Value.slice D1 (l1 ++ marks).length d1).ownBlock) (.slice D0 (l0 ++ marks).length d0) (l0 ++ marks) ∧ Kd.R k38 38 w' w.heap.size (fun k => some k ≠ (Value.slice D0 (l0 ++ marks).length d0).ownBlock) (.slice D1 (l1 ++ marks).length d1) (l1 ++ marks) ∧ Below w.heap.size w w' := by
  have HC0 := Aside0.mk hC0
  have HC1 := Aside0.mk hC1
  have Hc0 := Aside0.mk hc0
  have Hc1 := Aside0.mk hc1
  have HL0 := Aside0.mk hl0
  have HL1 := Aside0.mk hl1
  clear hC0 hC1 hc0 hc1 hl0 hl1
  have hu22 := Tryd.underlying22
  have hu24 := Tryd.underlying24
  have z0 : (w.alloc (.cells #[.int .i64 t, .slice A0 l0.length c0, .slice A1 l1.length c1, .bool fl] 24)).heap.size = w.heap.size + 1 := by simp
  have hE0 := ((Env.start w).push #[.int .i64 t, .slice A0 l0.length c0, .slice A1 l1.length c1, .bool fl] 24).push #[.int .i64 0, .slice none 0 0, .slice none 0 0, .bool false] 24
  rw [z0] at hE0
  clear z0
  obtain ⟨g1, hg1⟩ : ∃ g, g = w.heap.size + 1 := ⟨_, rfl⟩
  obtain ⟨g0, hg0⟩ : ∃ g, g = w.heap.size := ⟨_, rfl⟩
  rw [← hg1, ← hg0] at hE0
  obtain ⟨W0, hW0, hE⟩ : ∃ W0, (w.alloc (.cells #[.int .i64 t, .slice A0 l0.length c0, .slice A1 l1.length c1, .bool fl] 24)).alloc (.cells #[.int .i64 0, .slice none 0 0, .slice none 0 0, .bool false] 24) = W0 ∧ Env w _ _ W0 := ⟨_, rfl, hE0⟩
  have HG0 := Aside0.mk hg0
  have HG1 := Aside0.mk hg1
  have HW0 := Aside0.mk hW0
  have HE := Aside0.mk hE
  clear hE hE0 hW0 hg0 hg1
  go_enter Tryd.func10, Tryd.ntmps10
  go_upto_region 1 with fail
  rw [← HG1.out, ← HG0.out, HW0.out]
  clear HW0 HG0 HG1
  have xg0_0 : W0.cell? ⟨g0, 0, none⟩ = some (.int .i64 t) := HE.out.at_ 1 0 rfl rfl
  have xg0_1 : W0.cell? ⟨g0, 1, none⟩ = some (.slice A0 l0.length c0) := HE.out.at_ 1 1 rfl rfl
  have xg0_2 : W0.cell? ⟨g0, 2, none⟩ = some (.slice A1 l1.length c1) := HE.out.at_ 1 2 rfl rfl
  have xg0_3 : W0.cell? ⟨g0, 3, none⟩ = some (.bool fl) := HE.out.at_ 1 3 rfl rfl
  go_upto_region 2 with fail
  have hE := HE.out.push #[.int .i64 t, .slice A0 l0.length c0, .slice A1 l1.length c1, .bool fl] 24
  obtain ⟨g2, hg⟩ : ∃ g, g = W0.heap.size := ⟨_, rfl⟩
  rw [← hg] at hE ⊢
  generalize W0.alloc (.cells #[.int .i64 t, .slice A0 l0.length c0, .slice A1 l1.length c1, .bool fl] 24) = w1 at hE ⊢
  clear xg0_0 xg0_1 xg0_2 xg0_3
  clear hg HE
  have HE := Aside0.mk hE
  clear hE
  have xg0_0 : w1.cell? ⟨g0, 0, none⟩ = some (.int .i64 t) := HE.out.at_ 2 0 rfl rfl
  have xg0_1 : w1.cell? ⟨g0, 1, none⟩ = some (.slice A0 l0.length c0) := HE.out.at_ 2 1 rfl rfl
  have xg0_2 : w1.cell? ⟨g0, 2, none⟩ = some (.slice A1 l1.length c1) := HE.out.at_ 2 2 rfl rfl
  have xg0_3 : w1.cell? ⟨g0, 3, none⟩ = some (.bool fl) := HE.out.at_ 2 3 rfl rfl
  go_wp2_with fail
  refine (roomy_any A0 c0 l0 _ (HE.out.came HC0.out) Hc0.out HL0.out).mono ?_
  clear xg0_0 xg0_1 xg0_2 xg0_3
  rintro e w2 ⟨D0, d0, rfl, hd0, hR, hB⟩
  have hE := HE.out.row1 hB hR 1 (by decide) (by decide)
  have Hd0 := Aside0.mk (show l0.length + 64 ≤ d0 by have := len_marks l0; omega)
  clear HE hB hR hd0
  have HE := Aside0.mk hE
  clear hE
  have xg2_0 : w2.cell? ⟨g2, 0, none⟩ = some (.int .i64 t) := HE.out.at_ 0 0 rfl rfl
  have xg2_1 : w2.cell? ⟨g2, 1, none⟩ = some (.slice A0 l0.length c0) := HE.out.at_ 0 1 rfl rfl
  have xg2_2 : w2.cell? ⟨g2, 2, none⟩ = some (.slice A1 l1.length c1) := HE.out.at_ 0 2 rfl rfl
  have xg2_3 : w2.cell? ⟨g2, 3, none⟩ = some (.bool fl) := HE.out.at_ 0 3 rfl rfl
  have fg2_1 : w2.frozen? ⟨g2, 1, none⟩ = false := HE.out.fr_ 0 1 rfl
  go_upto_region 3 with fail
  have hE := HE.out.set 1 (.slice D0 l0.length d0)
  generalize w2.setCell ⟨g2, 1, none⟩ (.slice D0 l0.length d0) = w3 at hE ⊢
  clear xg2_0 xg2_1 xg2_2 xg2_3 fg2_1
  clear HE
  have HE : Aside0 (Env w (⟨g2, #[.int .i64 t, .slice D0 l0.length d0, .slice A1 l1.length c1, .bool fl], 24⟩ :: _) _ w3) := Aside0.mk hE
  clear hE
  have xg0_0 : w3.cell? ⟨g0, 0, none⟩ = some (.int .i64 t) := HE.out.at_ 2 0 rfl rfl
  have xg0_1 : w3.cell? ⟨g0, 1, none⟩ = some (.slice A0 l0.length c0) := HE.out.at_ 2 1 rfl rfl
  have xg0_2 : w3.cell? ⟨g0, 2, none⟩ = some (.slice A1 l1.length c1) := HE.out.at_ 2 2 rfl rfl
  have xg0_3 : w3.cell? ⟨g0, 3, none⟩ = some (.bool fl) := HE.out.at_ 2 3 rfl rfl
  go_wp2_with fail
  refine (roomy_any A1 c1 l1 _ (HE.out.came HC1.out) Hc1.out HL1.out).mono ?_
  clear xg0_0 xg0_1 xg0_2 xg0_3
  rintro e w4 ⟨D1, d1, rfl, hd1, hR, hB⟩
  have hE := HE.out.row1 hB hR 2 (show ([2, 1] : List Nat).Nodup from by decide) (by decide)
  clear HE
  have Hd1 := Aside0.mk (show l1.length + 64 ≤ d1 by have := len_marks l1; omega)
  clear hB hR hd1
  have HE := Aside0.mk hE
  clear hE
  have xg2_0 : w4.cell? ⟨g2, 0, none⟩ = some (.int .i64 t) := HE.out.at_ 0 0 rfl rfl
  have xg2_1 : w4.cell? ⟨g2, 1, none⟩ = some (.slice D0 l0.length d0) := HE.out.at_ 0 1 rfl rfl
  have xg2_2 : w4.cell? ⟨g2, 2, none⟩ = some (.slice A1 l1.length c1) := HE.out.at_ 0 2 rfl rfl
  have xg2_3 : w4.cell? ⟨g2, 3, none⟩ = some (.bool fl) := HE.out.at_ 0 3 rfl rfl
  have fg2_2 : w4.frozen? ⟨g2, 2, none⟩ = false := HE.out.fr_ 0 2 rfl
  go_upto_region 4 with fail
  have hE := HE.out.set 2 (.slice D1 l1.length d1)
  generalize w4.setCell ⟨g2, 2, none⟩ (.slice D1 l1.length d1) = w5 at hE ⊢
  clear xg2_0 xg2_1 xg2_2 xg2_3 fg2_2
  clear HE
  have HE : Aside0 (Env w (⟨g2, #[.int .i64 t, .slice D0 l0.length d0, .slice D1 l1.length d1, .bool fl], 24⟩ :: _) _ w5) := Aside0.mk hE
  clear hE
  have xg2_0 : w5.cell? ⟨g2, 0, none⟩ = some (.int .i64 t) := HE.out.at_ 0 0 rfl rfl
  have xg2_1 : w5.cell? ⟨g2, 1, none⟩ = some (.slice D0 l0.length d0) := HE.out.at_ 0 1 rfl rfl
  have xg2_2 : w5.cell? ⟨g2, 2, none⟩ = some (.slice D1 l1.length d1) := HE.out.at_ 0 2 rfl rfl
  have xg2_3 : w5.cell? ⟨g2, 3, none⟩ = some (.bool fl) := HE.out.at_ 0 3 rfl rfl
  have xg1_0 : w5.cell? ⟨g1, 0, none⟩ = some (.int .i64 0) := HE.out.at_ 1 0 rfl rfl
  have xg1_1 : w5.cell? ⟨g1, 1, none⟩ = some (.slice none 0 0) := HE.out.at_ 1 1 rfl rfl
  have xg1_2 : w5.cell? ⟨g1, 2, none⟩ = some (.slice none 0 0) := HE.out.at_ 1 2 rfl rfl
  have xg1_3 : w5.cell? ⟨g1, 3, none⟩ = some (.bool false) := HE.out.at_ 1 3 rfl rfl
  have fg1_0 : w5.frozen? ⟨g1, 0, none⟩ = false := HE.out.fr_ 1 0 rfl
  have fg1_1 : w5.frozen? ⟨g1, 1, none⟩ = false := HE.out.fr_ 1 1 rfl
  have fg1_2 : w5.frozen? ⟨g1, 2, none⟩ = false := HE.out.fr_ 1 2 rfl
  have fg1_3 : w5.frozen? ⟨g1, 3, none⟩ = false := HE.out.fr_ 1 3 rfl
  go_wp2_with fail
  have hE := ((((HE.out.sub (B' := [⟨g1, #[.int .i64 0, .slice none 0 0, .slice none 0 0, .bool false], 24⟩]) (.cons _ (.cons_cons _ (List.nil_sublist _))) (List.Sublist.refl _)).set 0 (.int .i64 t)).set 1 (.slice D0 l0.length d0)).set 2 (.slice D1 l1.length d1)).set 3 (.bool fl)
  clear xg2_0 xg2_1 xg2_2 xg2_3 xg1_0 xg1_1 xg1_2 xg1_3 fg1_0 fg1_1 fg1_2 fg1_3
  refine bodyPost_ret (results_cell_row rfl _ _ g1 24 #[.int .i64 t, .slice D0 l0.length d0, .slice D1 l1.length d1, .bool fl] (0, 0) _ rfl (hE.blk_ 0 rfl) Tryd.underlying24 rfl (by kernel_rfl)) rfl ?_
  have q := hE.own2_ 1 0 rfl rfl (by decide)
  exact ⟨D0, d0, D1, d1, rfl, Hd0.out, Hd1.out, q.1, q.2, hE.out⟩

theorem cut_cap {P : Program} (t e : TypeId) (kh : IntKind) {i : TypeInfo} (ht : P.underlying t = some (.slice e)) (hi : P.info? e = some i) (A : Option Addr) (n c : Nat) (j : Int) (h0 : 0 ≤ j) (hm : j ≤ c) (hc : n ≤ c) :
    ∀ W : World, (Instr.slice t (.slice A n c) none (some (.int kh j)) none).run P W = .ok (.slice A j.toNat c) W := by
  intro W
  have hel : P.elem t = e := by simp [Program.elem, ht]
  have hu : P.underlying t = some (.slice (P.elem t)) := by rw [hel]; exact ht
  have ha : (A.map fun x => x.add 0) = A := by cases A <;> simp [Addr.add]
  rw [run_slice_h W t A n c hu kh j h0 (by omega), hel]
  simp [sizeOf, typeInfo, hi, sliced, Result.andThen, ha]
theorem cut_n {P : Program} {A : Option Addr} {n m c : Nat} {j : Int} {t : TypeId} (e : j.toNat = m) (h : ∀ W : World, (Instr.slice t (.slice A n c) none (some (.int .i64 j)) none).run P W = .ok (.slice A j.toNat c) W) : ∀ W : World, (Instr.slice t (.slice A n c) none (some (.int .i64 j)) none).run P W = .ok (.slice A m c) W := by
  subst e
  exact h
theorem same38_loop (l : List S38) (hl : l.length ≤ 7000000000000) (d : Nat) : ∀ (k i : Nat), i + d = l.length → d < k → winnowlaw19_sameStates.l0 k l l (i : Int) = some true := by
  induction d with
  | zero =>
    intro k i hi hk
    obtain ⟨k, rfl⟩ : ∃ m, k = m + 1 := ⟨k - 1, by omega⟩
    rw [winnowlaw19_sameStates.l0, if_neg (by omega)]
  | succ d ih =>
    intro k i hi hk
    obtain ⟨k, rfl⟩ : ∃ m, k = m + 1 := ⟨k - 1, by omega⟩
    rw [winnowlaw19_sameStates.l0, if_pos (by omega), if_pos (by omega), if_pos (by omega), if_neg (by simp), wrap_succG i (by omega), ih k (i + 1) (by omega) (by omega)]
theorem same38 (l : List S38) (hl : l.length ≤ 7000000000000) (k : Nat) (hk : l.length < k) : winnowlaw19_sameStates.f k l l = some true := by
  unfold winnowlaw19_sameStates.f
  rw [if_pos rfl]
  exact same38_loop l hl l.length k 0 (by omega) hk
theorem same_book (t : Int) (fl : Bool) (l0 l1 : List S38) (h0 : l0.length ≤ 7000000000000) (h1 : l1.length ≤ 7000000000000) (k : Nat) (hk : l0.length < k) (hk1 : l1.length < k) : winnowlaw19_same.f k t l0 l1 fl t l0 l1 fl = some true := by
  unfold winnowlaw19_same.f
  rw [if_pos rfl, if_pos (by simp), same38 l0 h0 k hk, Option.bind_some, if_pos rfl, same38 l1 h1 k hk1, Option.bind_some]
theorem same_any (A A1 : Option Addr) (n c c1 : Nat) (l : List S38) (w : World) (hC : Kd.C k38 w A l.length l) (hn : n = l.length) (hc : n ≤ c) (hC1 : Kd.C k38 w A1 l.length l) (hc1 : n ≤ c1) (hl : n ≤ 7000000000000) :
    Calls Tryd.prog 53 #[.slice A n c, .slice A1 n c1] w fun e w' => e = .returned (.bool true) ∧ Below w.heap.size w w' := by
  subst hn
  refine (winnowlaw19_sameStates.calls (l.length + 1) A c l A1 c1 l true w hC hc hC1 hc1 (same38 l hl _ (by omega))).mono ?_
  rintro e w1 ⟨rfl, hD⟩
  exact ⟨rfl, hD.below⟩
theorem roomy_n (A : Option Addr) (n c : Nat) (l : List S38) (w : World) (hC : Kd.C k38 w A l.length l) (hn : n = l.length) (hc : n ≤ c) (hl : n ≤ 6000000000000) :
    Calls Tryd.prog 39 #[.slice A n c] w fun e w' => ∃ D d, e = .returned (.slice D n d) ∧ n + 64 ≤ d ∧ Kd.R k38 38 w' w.heap.size (fun _ => True) (.slice D (l ++ marks).length d) (l ++ marks) ∧ Below w.heap.size w w' := by
  subst hn
  refine (roomy_any A c l w hC hc hl).mono ?_
  rintro e w1 ⟨D, d, rfl, h1, h2, h3⟩
  exact ⟨D, d, rfl, by have := len_marks l; omega, h2, h3⟩
set_option maxHeartbeats 4000000 in
set_option maxRecDepth 100000 in
theorem keptStates_any (w : World) (A A1 : Option Addr) (c c1 n : Nat) (l : List S38) (hC : Kd.C k38 w A (l ++ marks).length (l ++ marks)) (hCn : Kd.C k38 w A l.length l) (hc : n + 64 ≤ c) (hn : n = l.length) (hC1 : Kd.C k38 w A1 l.length l) (hc1 : n ≤ c1) (hl : n ≤ 6000000000000) :
    Calls Tryd.prog 43 #[.slice A n c, .slice A1 n c1] w fun e w' => e = .returned (.bool true) ∧ Below w.heap.size w w' := by
  have hm := len_marks l
  have GS := Aside0.mk (fun (W : World) (hB : Below w.heap.size w W) => same_any A A1 n c c1 l W (Kd.C_below hCn hB) hn (by omega) (Kd.C_below hC1 hB) hc1 (by omega))
  have GR := Aside0.mk (fun (W : World) (hB : Below w.heap.size w W) => roomy_n A1 n c1 l W (Kd.C_below hC1 hB) hn hc1 hl)
  have G2 := Aside0.mk (fun (W : World) (D : Option Addr) (d : Nat) (hB : Below w.heap.size w W) (hd : (l ++ marks).length ≤ d) (hR : Kd.R k38 38 W w.heap.size (fun _ => True) (.slice D (l ++ marks).length d) (l ++ marks)) => same_any A D (n + 64) c d (l ++ marks) W (Kd.C_below hC hB) (by omega) (by omega) (Kd.R_reads' hR).2.2 (by omega) (by omega))
  have HM := Aside0.mk hm
  have HN := Aside0.mk hn
  have e64 : ((n : Int) + 64).toNat = n + 64 := by omega
  have hcut := cut_cap (P := Tryd.prog) 22 38 .i64 Tryd.underlying22 (info_parts info38).choose_spec.1 A n c ((n : Int) + 64) (by omega) (by omega) (by omega)
  rw [e64] at hcut
  have GC := Aside0.mk (fun (D : Option Addr) (d : Nat) (hd : n + 64 ≤ d) => cut_n e64 <| cut_cap (P := Tryd.prog) 22 38 .i64 Tryd.underlying22 (info_parts info38).choose_spec.1 D n d ((n : Int) + 64) (by omega) (by omega) (by omega))
  have hw : IntKind.i64.wrap ((n : Int) + 64) = (n : Int) + 64 := by rw [IntKind.wrap_i64]; omega
  have p2 : ((0 : Int) ≤ (n : Int) + 64) = True := eq_true (by omega)
  have p3 : ((n : Int) + 64 ≤ (c : Int)) = True := eq_true (by omega)
  have HB := Aside0.mk (Below.refl w.heap.size w)
  clear hC hCn hc hn hC1 hc1 hl hm
  go_enter Tryd.func43, Tryd.ntmps43
  go_upto_region 1 with fail
  go_region_held3 (fun w' => True) (trivial) (first
    | ((go_at_call 53; with_reducible refine (GS.out _ (by first | exact HB.out | exact below_drew1 HB.out)).mono ?_); rintro e w1 ⟨rfl, hq⟩; have HB1 := Aside0.mk (below_step (below_drew1 (Below.refl _ _)) hq); clear hq)
    | ((go_at_call 39; with_reducible refine (GR.out _ HB1.out).mono ?_); rintro e w2 ⟨D, d, rfl, hd, hR, hq⟩; have HB2 := Aside0.mk (below_step HB1.out hq); have HR2 := Aside0.mk (Kd.R_lower hR HB1.out.size); have HD2 := Aside0.mk hd; have hcut2 := GC.out D d hd; have p4 : ((n : Int) + 64 ≤ (d : Int)) = True := eq_true (by omega); clear hq hR hd)
    | ((go_at_call 53; with_reducible refine (G2.out _ D d HB2.out (by have := HM.out; have := HN.out; have := HD2.out; omega) HR2.out).mono ?_); rintro e w3 ⟨rfl, hq⟩; have HB3 := Aside0.mk (below_step HB2.out hq); clear hq))
  go_wp2_with fail
  go_ret
  exact ⟨rfl, HB3.out⟩
end Go.Proofs.YtponmfnegdlppaaDoor.P

end
section
/- kept, turned: contracts by hand (printed by HTurn.gen.py). -/
namespace Go.Proofs.YtponmfnegdlppaaDoor.P
open Go.RowKit Go.Proofs.YtponmfnegdlppaaDoorW.PrintWords Go.Proofs.YtponmfnegdlppaaDoorW.PrintLast Go.Proofs.YtponmfnegdlppaaDoorW.PrintMore
set_option linter.unusedVariables false
set_option linter.unusedSimpArgs false

set_option maxHeartbeats 4000000 in
set_option maxRecDepth 100000 in
theorem kept_any (t : Int) (fl : Bool) (A0 D0 : Option Addr) (c0 d0 : Nat) (l0 : List S38) (A1 D1 : Option Addr) (c1 d1 : Nat) (l1 : List S38) (w : World) (hF0 : Kd.C k38 w A0 (l0 ++ marks).length (l0 ++ marks)) (hF1 : Kd.C k38 w A1 (l1 ++ marks).length (l1 ++ marks)) (hC0 : Kd.C k38 w A0 l0.length l0) (hC1 : Kd.C k38 w A1 l1.length l1)
    (hD0 : Kd.C k38 w D0 l0.length l0) (hD1 : Kd.C k38 w D1 l1.length l1) (hc0 : l0.length + 64 ≤ c0) (hc1 : l1.length + 64 ≤ c1) (hd0 : l0.length ≤ d0) (hd1 : l1.length ≤ d1) (hl0 : l0.length ≤ 6000000000000) (hl1 : l1.length ≤ 6000000000000) :
    Calls Tryd.prog 20 #[.agg #[.int .i64 t, .slice A0 l0.length c0, .slice A1 l1.length c1, .bool fl], .agg #[.int .i64 t, .slice D0 l0.length d0, .slice D1 l1.length d1, .bool fl]] w fun e w' => e = .returned (.bool true) ∧ Below w.heap.size w w' := by
  have HK0 := Aside0.mk (fun (W : World) (hB : Below w.heap.size w W) => keptStates_any W A0 D0 c0 d0 l0.length l0 (Kd.C_below hF0 hB) (Kd.C_below hC0 hB) hc0 rfl (Kd.C_below hD0 hB) hd0 hl0)
  have HK1 := Aside0.mk (fun (W : World) (hB : Below w.heap.size w W) => keptStates_any W A1 D1 c1 d1 l1.length l1 (Kd.C_below hF1 hB) (Kd.C_below hC1 hB) hc1 rfl (Kd.C_below hD1 hB) hd1 hl1)
  obtain ⟨k, hk⟩ : ∃ k, l0.length + l1.length < k := ⟨_, Nat.lt_succ_self _⟩
  have HS := Aside0.mk (fun (W : World) (hB : Below w.heap.size w W) => winnowlaw19_same.calls k t A0 c0 l0 A1 c1 l1 fl t D0 d0 l0 D1 d1 l1 fl true W (Kd.C_below hC0 hB) (by omega) (Kd.C_below hC1 hB) (by omega) (Kd.C_below hD0 hB) hd0 (Kd.C_below hD1 hB) hd1 (same_book t fl l0 l1 (by omega) (by omega) k (by omega) (by omega)))
  clear hF0 hF1 hC0 hC1 hD0 hD1 hc0 hc1 hd0 hd1 hl0 hl1 hk
  have hu22 := Tryd.underlying22
  have hu24 := Tryd.underlying24
  have z0 : (w.alloc (.cells #[.int .i64 t, .slice A0 l0.length c0, .slice A1 l1.length c1, .bool fl] 24)).heap.size = w.heap.size + 1 := by simp
  have hE0 := ((Env.start w).push #[.int .i64 t, .slice A0 l0.length c0, .slice A1 l1.length c1, .bool fl] 24).push #[.int .i64 t, .slice D0 l0.length d0, .slice D1 l1.length d1, .bool fl] 24
  rw [z0] at hE0
  clear z0
  obtain ⟨g1, hg1⟩ : ∃ g, g = w.heap.size + 1 := ⟨_, rfl⟩
  obtain ⟨g0, hg0⟩ : ∃ g, g = w.heap.size := ⟨_, rfl⟩
  rw [← hg1, ← hg0] at hE0
  obtain ⟨W0, hW0, hE⟩ : ∃ W0, (w.alloc (.cells #[.int .i64 t, .slice A0 l0.length c0, .slice A1 l1.length c1, .bool fl] 24)).alloc (.cells #[.int .i64 t, .slice D0 l0.length d0, .slice D1 l1.length d1, .bool fl] 24) = W0 ∧ Env w _ _ W0 := ⟨_, rfl, hE0⟩
  have HG0 := Aside0.mk hg0
  have HG1 := Aside0.mk hg1
  have HW0 := Aside0.mk hW0
  have HE := Aside0.mk hE
  clear hE hE0 hW0 hg0 hg1
  go_enter Tryd.func20, Tryd.ntmps20
  go_upto_region 1 with fail
  rw [← HG1.out, ← HG0.out, HW0.out]
  clear HW0 HG0 HG1
  have xg0_0 : W0.cell? ⟨g0, 0, none⟩ = some (.int .i64 t) := HE.out.at_ 1 0 rfl rfl
  have xg0_1 : W0.cell? ⟨g0, 1, none⟩ = some (.slice A0 l0.length c0) := HE.out.at_ 1 1 rfl rfl
  have xg0_2 : W0.cell? ⟨g0, 2, none⟩ = some (.slice A1 l1.length c1) := HE.out.at_ 1 2 rfl rfl
  have xg0_3 : W0.cell? ⟨g0, 3, none⟩ = some (.bool fl) := HE.out.at_ 1 3 rfl rfl
  have xg1_0 : W0.cell? ⟨g1, 0, none⟩ = some (.int .i64 t) := HE.out.at_ 0 0 rfl rfl
  have xg1_1 : W0.cell? ⟨g1, 1, none⟩ = some (.slice D0 l0.length d0) := HE.out.at_ 0 1 rfl rfl
  have xg1_2 : W0.cell? ⟨g1, 2, none⟩ = some (.slice D1 l1.length d1) := HE.out.at_ 0 2 rfl rfl
  have xg1_3 : W0.cell? ⟨g1, 3, none⟩ = some (.bool fl) := HE.out.at_ 0 3 rfl rfl
  go_wp2_with fail
  refine (HS.out _ HE.out.out).mono ?_
  clear xg0_0 xg0_1 xg0_2 xg0_3 xg1_0 xg1_1 xg1_2 xg1_3
  rintro e w1 ⟨rfl, hB⟩
  have hE := HE.out.below hB
  clear HE
  clear hB
  have HE := Aside0.mk hE
  clear hE
  have xg0_0 : w1.cell? ⟨g0, 0, none⟩ = some (.int .i64 t) := HE.out.at_ 1 0 rfl rfl
  have xg0_1 : w1.cell? ⟨g0, 1, none⟩ = some (.slice A0 l0.length c0) := HE.out.at_ 1 1 rfl rfl
  have xg0_2 : w1.cell? ⟨g0, 2, none⟩ = some (.slice A1 l1.length c1) := HE.out.at_ 1 2 rfl rfl
  have xg0_3 : w1.cell? ⟨g0, 3, none⟩ = some (.bool fl) := HE.out.at_ 1 3 rfl rfl
  have xg1_0 : w1.cell? ⟨g1, 0, none⟩ = some (.int .i64 t) := HE.out.at_ 0 0 rfl rfl
  have xg1_1 : w1.cell? ⟨g1, 1, none⟩ = some (.slice D0 l0.length d0) := HE.out.at_ 0 1 rfl rfl
  have xg1_2 : w1.cell? ⟨g1, 2, none⟩ = some (.slice D1 l1.length d1) := HE.out.at_ 0 2 rfl rfl
  have xg1_3 : w1.cell? ⟨g1, 3, none⟩ = some (.bool fl) := HE.out.at_ 0 3 rfl rfl
  go_wp2_with fail
  refine (HK0.out _ HE.out.out).mono ?_
  clear xg0_0 xg0_1 xg0_2 xg0_3 xg1_0 xg1_1 xg1_2 xg1_3
  rintro e w2 ⟨rfl, hB⟩
  have hE := HE.out.below hB
  clear HE
  clear hB
  have HE := Aside0.mk hE
  clear hE
  have xg0_0 : w2.cell? ⟨g0, 0, none⟩ = some (.int .i64 t) := HE.out.at_ 1 0 rfl rfl
  have xg0_1 : w2.cell? ⟨g0, 1, none⟩ = some (.slice A0 l0.length c0) := HE.out.at_ 1 1 rfl rfl
  have xg0_2 : w2.cell? ⟨g0, 2, none⟩ = some (.slice A1 l1.length c1) := HE.out.at_ 1 2 rfl rfl
  have xg0_3 : w2.cell? ⟨g0, 3, none⟩ = some (.bool fl) := HE.out.at_ 1 3 rfl rfl
  have xg1_0 : w2.cell? ⟨g1, 0, none⟩ = some (.int .i64 t) := HE.out.at_ 0 0 rfl rfl
  have xg1_1 : w2.cell? ⟨g1, 1, none⟩ = some (.slice D0 l0.length d0) := HE.out.at_ 0 1 rfl rfl
  have xg1_2 : w2.cell? ⟨g1, 2, none⟩ = some (.slice D1 l1.length d1) := HE.out.at_ 0 2 rfl rfl
  have xg1_3 : w2.cell? ⟨g1, 3, none⟩ = some (.bool fl) := HE.out.at_ 0 3 rfl rfl
  go_wp2_with fail
  refine (HK1.out _ HE.out.out).mono ?_
  clear xg0_0 xg0_1 xg0_2 xg0_3 xg1_0 xg1_1 xg1_2 xg1_3
  rintro e w3 ⟨rfl, hB⟩
  have hE := HE.out.below hB
  clear HE
  clear hB
  have HE := Aside0.mk hE
  clear hE
  go_wp2_with fail
  go_ret
  exact ⟨rfl, HE.out.out⟩
/-- states turned round where they lie -/
theorem back_env {w0 W : World} {B : List Bx} {R : List It} {c : Nat} {u : Value} {l r : List S38} (h : Env w0 B (⟨c, k38, 38, u, l⟩ :: R) W) (k : Nat) (hr : winnowlaw19_back.f k l = some r) :
    Calls Tryd.prog 44 #[u] W fun e W' => e = .returned (.tuple #[]) ∧ Env w0 B (⟨c, k38, 38, u, r⟩ :: R) W' := by
  obtain ⟨P, hR, hK⟩ := h.write
  refine (winnowlaw19_back.calls k P u l r w0 W h.out hR hr).mono ?_
  rintro e w1 ⟨rfl, h1, h2, h3⟩
  exact ⟨rfl, hK w1 u r h3 h2 h1⟩
/-- what turning round comes to -/
theorem back_loop (n : Nat) (hn : n ≤ 6000000000000) : ∀ (d k i j : Nat) (l : List S38), i + j + 1 = n → d + 2 * i = n → d < k → l.length = n → ∃ r, winnowlaw19_back.l0 k l (i : Int) (j : Int) = some r ∧ r.length = n := by
  intro d
  induction d using Nat.strongRecOn with
  | _ d ih =>
    intro k i j l hij hd hk hl
    obtain ⟨k, rfl⟩ : ∃ m, k = m + 1 := ⟨k - 1, by omega⟩
    rw [winnowlaw19_back.l0]
    by_cases h : (i : Int) < (j : Int)
    · rw [if_pos h, if_pos (by omega), if_pos (by omega), if_pos (by omega), if_pos (by omega), wrap_succG i (by omega), show wrap64 ((j : Int) - 1) = ((j - 1 : Nat) : Int) from by unfold wrap64; omega]
      exact ih (d - 2) (by omega) k (i + 1) (j - 1) _ (by omega) (by omega) (by omega) (by rw [List.length_set, List.length_set]; exact hl)
    · rw [if_neg h]
      exact ⟨l, rfl, hl⟩
theorem back_some (l : List S38) (hl : l.length ≤ 6000000000000) : ∃ r, r.length = l.length ∧ winnowlaw19_back.f (l.length + 1) l = some r := by
  unfold winnowlaw19_back.f
  cases l with
  | nil => exact ⟨[], rfl, by rw [winnowlaw19_back.l0, if_neg (by unfold wrap64; rw [List.length_nil]; omega)]⟩
  | cons x l =>
    have e : wrap64 (((x :: l).length : Int) - 1) = ((l.length : Nat) : Int) := by rw [List.length_cons] at hl ⊢; unfold wrap64; omega
    rw [e]
    obtain ⟨r, h1, h2⟩ := back_loop (x :: l).length hl (x :: l).length ((x :: l).length + 1) 0 l.length (x :: l) (by simp) (by omega) (by omega) rfl
    exact ⟨r, h2, h1⟩
/-- a list turned round -/
def turn (l : List S38) : List S38 := (winnowlaw19_back.f (l.length + 1) l).getD []
theorem back_mem (L : List S38) : ∀ (k : Nat) (l r : List S38) (i j : Int), (∀ x ∈ l, x ∈ L) → winnowlaw19_back.l0 k l i j = some r → ∀ x ∈ r, x ∈ L
  | 0, l, r, i, j, hl, h => by simp [winnowlaw19_back.l0] at h
  | k + 1, l, r, i, j, hl, h => by
    rw [winnowlaw19_back.l0] at h
    by_cases h1 : i < j
    · rw [if_pos h1] at h
      by_cases h2 : 0 ≤ i
      · rw [if_pos h2] at h
        by_cases h3 : i < (l.length : Int)
        · rw [if_pos h3] at h
          by_cases h4 : 0 ≤ j
          · rw [if_pos h4] at h
            by_cases h5 : j < (l.length : Int)
            · rw [if_pos h5] at h
              have e : ∀ q : Int, 0 ≤ q → q < (l.length : Int) → rd_T38 l q ∈ l := fun q a b => by
                obtain ⟨m, rfl⟩ := Int.eq_ofNat_of_zero_le a
                have := rd38 l m (by omega)
                rw [this]
                exact List.getElem_mem _
              refine back_mem L k _ r _ _ (fun x m => ?_) h
              rcases List.mem_or_eq_of_mem_set m with m | rfl
              · rcases List.mem_or_eq_of_mem_set m with m | rfl
                · exact hl x m
                · exact hl _ (e j h4 h5)
              · exact hl _ (e i h2 h3)
            · rw [if_neg h5] at h; cases h
          · rw [if_neg h4] at h; cases h
        · rw [if_neg h3] at h; cases h
      · rw [if_neg h2] at h; cases h
    · rw [if_neg h1] at h
      obtain rfl := Option.some.inj h
      exact hl
theorem turn_mem_ (l : List S38) (h : winnowlaw19_back.f (l.length + 1) l = some (turn l)) : ∀ x ∈ turn l, x ∈ l :=
  back_mem l _ _ _ _ _ (fun _ h => h) h
theorem turn_eq (l : List S38) (hl : l.length ≤ 6000000000000) : winnowlaw19_back.f (l.length + 1) l = some (turn l) ∧ (turn l).length = l.length := by
  obtain ⟨r, h1, h2⟩ := back_some l hl
  unfold turn
  rw [h2]
  exact ⟨rfl, h1⟩
set_option maxHeartbeats 4000000 in
set_option maxRecDepth 100000 in
theorem turned_env {w0 W : World} {B : List Bx} {R : List It} {a0 a1 : Nat} {u0 u1 : Value} {l0 l1 : List S38} (t : Int) (fl : Bool) (h : Env w0 B (⟨a0, k38, 38, u0, l0⟩ :: ⟨a1, k38, 38, u1, l1⟩ :: R) W) (hl0 : l0.length ≤ 6000000000000) (hl1 : l1.length ≤ 6000000000000) :
    Calls Tryd.prog 21 #[.agg #[.int .i64 t, u0, u1, .bool fl]] W fun e W' => e = .returned (.agg #[.int .i64 t, u0, u1, .bool fl]) ∧ Env w0 B (⟨a0, k38, 38, u0, turn l0⟩ :: ⟨a1, k38, 38, u1, turn l1⟩ :: R) W' := by
  have HL0 := Aside0.mk hl0
  have HL1 := Aside0.mk hl1
  obtain ⟨A0, p0, rfl⟩ := h.slice (List.mem_cons_self ..)
  obtain ⟨A1, p1, rfl⟩ := h.slice (List.mem_cons_of_mem _ (List.mem_cons_self ..))
  have HB0 := Aside0.mk (fun b m => Nat.ne_of_lt (h.boxlt (b := b) m))
  clear hl0 hl1
  have hu22 := Tryd.underlying22
  have hu24 := Tryd.underlying24
  have z0 : (W.alloc (.cells #[.int .i64 t, .slice A0 l0.length p0, .slice A1 l1.length p1, .bool fl] 24)).heap.size = W.heap.size + 1 := by simp
  have hE0 := (h.push #[.int .i64 t, .slice A0 l0.length p0, .slice A1 l1.length p1, .bool fl] 24).push #[.int .i64 0, .slice none 0 0, .slice none 0 0, .bool false] 24
  rw [z0] at hE0
  clear z0
  obtain ⟨g1, hg1⟩ : ∃ g, g = W.heap.size + 1 := ⟨_, rfl⟩
  obtain ⟨g0, hg0⟩ : ∃ g, g = W.heap.size := ⟨_, rfl⟩
  rw [← hg1, ← hg0] at hE0
  obtain ⟨W0, hW0, hE⟩ : ∃ W0, (W.alloc (.cells #[.int .i64 t, .slice A0 l0.length p0, .slice A1 l1.length p1, .bool fl] 24)).alloc (.cells #[.int .i64 0, .slice none 0 0, .slice none 0 0, .bool false] 24) = W0 ∧ Env w0 _ _ W0 := ⟨_, rfl, hE0⟩
  have HG0 := Aside0.mk hg0
  have HG1 := Aside0.mk hg1
  have HW0 := Aside0.mk hW0
  have HE := Aside0.mk hE
  clear hE hE0 hW0 hg0 hg1
  go_enter Tryd.func21, Tryd.ntmps21
  go_upto_region 1 with fail
  rw [← HG1.out, ← HG0.out, HW0.out]
  clear HW0 HG0 HG1
  have xg0_0 : W0.cell? ⟨g0, 0, none⟩ = some (.int .i64 t) := HE.out.at_ 1 0 rfl rfl
  have xg0_1 : W0.cell? ⟨g0, 1, none⟩ = some (.slice A0 l0.length p0) := HE.out.at_ 1 1 rfl rfl
  have xg0_2 : W0.cell? ⟨g0, 2, none⟩ = some (.slice A1 l1.length p1) := HE.out.at_ 1 2 rfl rfl
  have xg0_3 : W0.cell? ⟨g0, 3, none⟩ = some (.bool fl) := HE.out.at_ 1 3 rfl rfl
  go_wp2_with fail
  refine (back_env HE.out _ (turn_eq l0 HL0.out).1).mono ?_
  clear xg0_0 xg0_1 xg0_2 xg0_3
  rintro e w1 ⟨rfl, hB⟩
  have hE := hB.swap
  clear HE
  have HE := Aside0.mk hE
  clear hE
  clear hB
  have xg0_0 : w1.cell? ⟨g0, 0, none⟩ = some (.int .i64 t) := HE.out.at_ 1 0 rfl rfl
  have xg0_1 : w1.cell? ⟨g0, 1, none⟩ = some (.slice A0 l0.length p0) := HE.out.at_ 1 1 rfl rfl
  have xg0_2 : w1.cell? ⟨g0, 2, none⟩ = some (.slice A1 l1.length p1) := HE.out.at_ 1 2 rfl rfl
  have xg0_3 : w1.cell? ⟨g0, 3, none⟩ = some (.bool fl) := HE.out.at_ 1 3 rfl rfl
  go_wp2_with fail
  refine (back_env HE.out _ (turn_eq l1 HL1.out).1).mono ?_
  clear xg0_0 xg0_1 xg0_2 xg0_3
  rintro e w2 ⟨rfl, hB⟩
  have hE := hB.swap
  clear HE
  have HE := Aside0.mk hE
  clear hE
  clear hB
  have xg0_0 : w2.cell? ⟨g0, 0, none⟩ = some (.int .i64 t) := HE.out.at_ 1 0 rfl rfl
  have xg0_1 : w2.cell? ⟨g0, 1, none⟩ = some (.slice A0 l0.length p0) := HE.out.at_ 1 1 rfl rfl
  have xg0_2 : w2.cell? ⟨g0, 2, none⟩ = some (.slice A1 l1.length p1) := HE.out.at_ 1 2 rfl rfl
  have xg0_3 : w2.cell? ⟨g0, 3, none⟩ = some (.bool fl) := HE.out.at_ 1 3 rfl rfl
  have xg1_0 : w2.cell? ⟨g1, 0, none⟩ = some (.int .i64 0) := HE.out.at_ 0 0 rfl rfl
  have xg1_1 : w2.cell? ⟨g1, 1, none⟩ = some (.slice none 0 0) := HE.out.at_ 0 1 rfl rfl
  have xg1_2 : w2.cell? ⟨g1, 2, none⟩ = some (.slice none 0 0) := HE.out.at_ 0 2 rfl rfl
  have xg1_3 : w2.cell? ⟨g1, 3, none⟩ = some (.bool false) := HE.out.at_ 0 3 rfl rfl
  have fg1_0 : w2.frozen? ⟨g1, 0, none⟩ = false := HE.out.fr_ 0 0 rfl
  have fg1_1 : w2.frozen? ⟨g1, 1, none⟩ = false := HE.out.fr_ 0 1 rfl
  have fg1_2 : w2.frozen? ⟨g1, 2, none⟩ = false := HE.out.fr_ 0 2 rfl
  have fg1_3 : w2.frozen? ⟨g1, 3, none⟩ = false := HE.out.fr_ 0 3 rfl
  go_wp2_with fail
  have hE := ((((HE.out.sub (B' := ⟨g1, #[.int .i64 0, .slice none 0 0, .slice none 0 0, .bool false], 24⟩ :: B) (.cons_cons _ (.cons _ (List.Sublist.refl _))) (List.Sublist.refl _)).set 0 (.int .i64 t)).set 1 (.slice A0 l0.length p0)).set 2 (.slice A1 l1.length p1)).set 3 (.bool fl)
  clear xg0_0 xg0_1 xg0_2 xg0_3 xg1_0 xg1_1 xg1_2 xg1_3 fg1_0 fg1_1 fg1_2 fg1_3
  refine bodyPost_ret (results_cell_row rfl _ _ g1 24 #[.int .i64 t, .slice A0 l0.length p0, .slice A1 l1.length p1, .bool fl] (0, 0) _ rfl (hE.blk_ 0 rfl) Tryd.underlying24 rfl (by kernel_rfl)) rfl ?_
  exact ⟨rfl, hE.sub (.cons _ (List.Sublist.refl _)) (List.Sublist.refl _)⟩
end Go.Proofs.YtponmfnegdlppaaDoor.P

end
section
/- spoil and apart over Env: two answers of one call, told apart. -/
namespace Go.Proofs.YtponmfnegdlppaaDoor.P
open Go.RowKit Go.Proofs.YtponmfnegdlppaaDoorW.PrintWords Go.Proofs.YtponmfnegdlppaaDoorW.PrintLast Go.Proofs.YtponmfnegdlppaaDoorW.PrintMore
set_option linter.unusedVariables false
set_option linter.unusedSimpArgs false

theorem spoil_env {w0 W : World} {B : List Bx} {R : List It} {a0 a1 : Nat} {u0 u1 : Value} {l0 l1 : List S38} (t : Int) (fl : Bool) (h : Env w0 B (⟨a0, k38, 38, u0, l0⟩ :: ⟨a1, k38, 38, u1, l1⟩ :: R) W) (hl0 : l0.length ≤ 100000) (hl1 : l1.length ≤ 100000) :
    Calls Tryd.prog 52 #[.agg #[.int .i64 t, u0, u1, .bool fl]] W fun e W' => e = .returned (.tuple #[]) ∧ Env w0 B R W' := by
  obtain ⟨P0, P1, r0, r1, hd, hK⟩ := h.lose2
  refine (spoil_any P0 P1 t fl u0 u1 l0 l1 w0 W h.out r0 r1 hd hl0 hl1).mono ?_
  rintro e w1 ⟨rfl, h1, h2⟩
  exact ⟨rfl, hK w1 h2 h1⟩
/-- One element of the first row is written. -/
theorem Env.put_ {w0 W : World} {B : List Bx} {R : List It} {c : Nat} {u : Value} {l : List S38} (h : Env w0 B (⟨c, k38, 38, u, l⟩ :: R) W) (i : Nat) (hi : i < l.length) (x : S38) :
    ∃ g cp, u = .slice (some ⟨g, 0, none⟩) l.length cp ∧
      (∃ a0 a1 a2 : Int, W.cell? ⟨g, i * 3, none⟩ = some (.int .i64 a0) ∧ W.cell? ⟨g, i * 3 + 1, none⟩ = some (.int .i64 a1) ∧ W.cell? ⟨g, i * 3 + 2, none⟩ = some (.int .i64 a2)) ∧
      (W.frozen? ⟨g, i * 3, none⟩ = false ∧ W.frozen? ⟨g, i * 3 + 1, none⟩ = false ∧ W.frozen? ⟨g, i * 3 + 2, none⟩ = false) ∧
      Env w0 B (⟨c, k38, 38, u, l.set i x⟩ :: R) (((W.setCell ⟨g, i * 3, none⟩ (.int .i64 x.f0)).setCell ⟨g, i * 3 + 1, none⟩ (.int .i64 x.f1)).setCell ⟨g, i * 3 + 2, none⟩ (.int .i64 x.f2)) := by
  obtain ⟨P, hR, hK⟩ := h.write
  obtain ⟨g, cp, e, hPg, hbg, hx, hf, hR2, hg⟩ := put38 hR i hi x
  refine ⟨g, cp, e, hx, hf, hK _ _ _ (Kept.of_grown hg (Kept.refl W P) (fun k e => .inl (by injection e with e; subst e; exact hPg))) (((h.out.setCell hbg _).setCell hbg _).setCell hbg _) (Kd.R_mono hR2 (fun k hk => .inl hk))⟩
/-- One is added to the first row. -/
theorem Env.app38 {w0 W W1 : World} {B : List Bx} {R : List It} {c : Nat} {u u' : Value} {l l' : List S38} {P : Nat → Prop}
    (hK : ∀ (W' : World) (v' : Value) (l' : List S38), Kept W W' P → Below w0.heap.size w0 W' → Kd.R k38 38 W' w0.heap.size (fun k => P k ∨ W.heap.size ≤ k) v' l' → Env w0 B (⟨c, k38, 38, v', l'⟩ :: R) W') (hR : Kd.R k38 38 W w0.heap.size P u l)
    (ho : Kd.R k38 38 W1 w0.heap.size (fun k => P k ∨ W.heap.size ≤ k) u' l') (hb : Below w0.heap.size w0 W1) (hg : W.grownBy W1 u.ownBlock) : Env w0 B (⟨c, k38, 38, u', l'⟩ :: R) W1 :=
  hK W1 u' l' (Kept.of_grown hg (Kept.refl W P) (fun k e => .inl (hR.1 k e))) hb ho

set_option maxHeartbeats 4000000 in
set_option maxRecDepth 100000 in
theorem apart_env {w0 W : World} {B : List Bx} {R : List It} {a0 a1 a2 a3 a4 a5 : Nat} {u0 u1 v0 v1 z0 z1 : Value} {l0 l1 : List S38} (t : Int) (fl : Bool)
    (h : Env w0 B (⟨a0, k38, 38, u0, l0⟩ :: ⟨a1, k38, 38, u1, l1⟩ :: ⟨a2, k38, 38, v0, l0⟩ :: ⟨a3, k38, 38, v1, l1⟩ :: ⟨a4, k38, 38, z0, l0⟩ :: ⟨a5, k38, 38, z1, l1⟩ :: R) W) (hl0 : l0.length ≤ 100000) (hl1 : l1.length ≤ 100000) :
    Calls Tryd.prog 26 #[.agg #[.int .i64 t, u0, u1, .bool fl], .agg #[.int .i64 t, v0, v1, .bool fl], .agg #[.int .i64 t, z0, z1, .bool fl]] W fun e W' => e = .returned (.bool true) ∧ Env w0 B R W' := by
  have HL0 := Aside0.mk hl0
  have HL1 := Aside0.mk hl1
  obtain ⟨A2, p2, rfl⟩ := h.slice (c := a2) (v := v0) (l := l0) (d := k38) (e := 38) (by simp)
  obtain ⟨A3, p3, rfl⟩ := h.slice (c := a3) (v := v1) (l := l1) (d := k38) (e := 38) (by simp)
  obtain ⟨A4, p4, rfl⟩ := h.slice (c := a4) (v := z0) (l := l0) (d := k38) (e := 38) (by simp)
  obtain ⟨A5, p5, rfl⟩ := h.slice (c := a5) (v := z1) (l := l1) (d := k38) (e := 38) (by simp)
  have H_ := Aside0.mk h
  clear hl0 hl1 h
  have hu22 := Tryd.underlying22
  have hu24 := Tryd.underlying24
  have hu38 := Tryd.underlying38
  have z0 : (W.alloc (.cells #[.int .i64 t, u0, u1, .bool fl] 24)).heap.size = W.heap.size + 1 := by simp
  have z1 : ((W.alloc (.cells #[.int .i64 t, u0, u1, .bool fl] 24)).alloc (.cells #[.int .i64 t, .slice A2 l0.length p2, .slice A3 l1.length p3, .bool fl] 24)).heap.size = W.heap.size + 1 + 1 := by simp
  have hE0 := ((H_.out.push #[.int .i64 t, u0, u1, .bool fl] 24).push #[.int .i64 t, .slice A2 l0.length p2, .slice A3 l1.length p3, .bool fl] 24).push #[.int .i64 t, .slice A4 l0.length p4, .slice A5 l1.length p5, .bool fl] 24
  rw [z0, z1] at hE0
  clear z0 z1
  obtain ⟨g2, hg2⟩ : ∃ g, g = W.heap.size + 1 + 1 := ⟨_, rfl⟩
  obtain ⟨g1, hg1⟩ : ∃ g, g = W.heap.size + 1 := ⟨_, rfl⟩
  obtain ⟨g0, hg0⟩ : ∃ g, g = W.heap.size := ⟨_, rfl⟩
  rw [← hg2, ← hg1, ← hg0] at hE0
  obtain ⟨W0, hW0, hE⟩ : ∃ W0, ((W.alloc (.cells #[.int .i64 t, u0, u1, .bool fl] 24)).alloc (.cells #[.int .i64 t, .slice A2 l0.length p2, .slice A3 l1.length p3, .bool fl] 24)).alloc (.cells #[.int .i64 t, .slice A4 l0.length p4, .slice A5 l1.length p5, .bool fl] 24) = W0 ∧ Env w0 _ _ W0 := ⟨_, rfl, hE0⟩
  have HG0 := Aside0.mk hg0
  have HG1 := Aside0.mk hg1
  have HG2 := Aside0.mk hg2
  have HW0 := Aside0.mk hW0
  have HE := Aside0.mk hE
  clear hE hE0 hW0 hg0 hg1 hg2
  go_enter Tryd.func26, Tryd.ntmps26
  go_wp2_with fail
  rw [← HG2.out, ← HG1.out, ← HG0.out, HW0.out]
  clear HW0 HG0 HG1 HG2
  refine (spoil_env t fl HE.out HL0.out HL1.out).mono ?_
  rintro e w1 ⟨rfl, hE⟩
  clear HE
  have HE := Aside0.mk hE
  clear hE
  have xg1_0 : w1.cell? ⟨g1, 0, none⟩ = some (.int .i64 t) := HE.out.at_ 1 0 rfl rfl
  have xg1_1 : w1.cell? ⟨g1, 1, none⟩ = some (.slice A2 l0.length p2) := HE.out.at_ 1 1 rfl rfl
  have xg1_2 : w1.cell? ⟨g1, 2, none⟩ = some (.slice A3 l1.length p3) := HE.out.at_ 1 2 rfl rfl
  have xg1_3 : w1.cell? ⟨g1, 3, none⟩ = some (.bool fl) := HE.out.at_ 1 3 rfl rfl
  have xg2_0 : w1.cell? ⟨g2, 0, none⟩ = some (.int .i64 t) := HE.out.at_ 0 0 rfl rfl
  have xg2_1 : w1.cell? ⟨g2, 1, none⟩ = some (.slice A4 l0.length p4) := HE.out.at_ 0 1 rfl rfl
  have xg2_2 : w1.cell? ⟨g2, 2, none⟩ = some (.slice A5 l1.length p5) := HE.out.at_ 0 2 rfl rfl
  have xg2_3 : w1.cell? ⟨g2, 3, none⟩ = some (.bool fl) := HE.out.at_ 0 3 rfl rfl
  go_wp2_with fail
  have q2 := HE.out.row_ 0 rfl
  have q3 := HE.out.row_ 1 rfl
  have q4 := HE.out.row_ 2 rfl
  have q5 := HE.out.row_ 3 rfl
  have m2 := (HE.out.cap_ 0 rfl).2
  have m3 := (HE.out.cap_ 1 rfl).2
  have m4 := (HE.out.cap_ 2 rfl).2
  have m5 := (HE.out.cap_ 3 rfl).2
  refine (winnowlaw19_same.calls (l0.length + l1.length + 1) t A2 p2 l0 A3 p3 l1 fl t A4 p4 l0 A5 p5 l1 fl true _ q2 m2 q3 m3 q4 m4 q5 m5 (same_book t fl l0 l1 (by have := HL0.out; omega) (by have := HL1.out; omega) _ (by omega) (by omega))).mono ?_
  rintro e w2 ⟨rfl, hB⟩
  have hE := HE.out.below hB
  clear HE hB q2 q3 q4 q5 m2 m3 m4 m5
  clear xg1_0 xg1_1 xg1_2 xg1_3 xg2_0 xg2_1 xg2_2 xg2_3
  have HE := Aside0.mk hE.bswap
  clear hE
  obtain ⟨n0, hn0⟩ : ∃ n : Nat, n = l0.length := ⟨_, rfl⟩
  rw [← hn0] at HE ⊢
  have hb0 : (n0 : Int) ≤ 100000 := by have := HL0.out; omega
  have HN0 := Aside0.mk hn0
  clear hn0
  go_wp2_with fail
  go_loopw [7] (fun v wr => ∃ i : Nat, i ≤ n0 ∧ v = .int .i64 i ∧ ∃ l : List S38, Aside0 (l.length = n0) ∧ Aside0 (Env w0 (⟨g1, #[.int .i64 t, .slice A2 n0 p2, .slice A3 l1.length p3, .bool fl], 24⟩ :: ⟨g2, #[.int .i64 t, .slice A4 n0 p4, .slice A5 l1.length p5, .bool fl], 24⟩ :: ⟨g0, #[.int .i64 t, u0, u1, .bool fl], 24⟩ :: B) (⟨a2, k38, 38, .slice A2 n0 p2, l⟩ :: ⟨a3, k38, 38, .slice A3 l1.length p3, l1⟩ :: ⟨a4, k38, 38, .slice A4 n0 p4, l0⟩ :: ⟨a5, k38, 38, .slice A5 l1.length p5, l1⟩ :: R) wr)) (fun v _ => n0 - (intOf v).toNat)
  case atStart => exact ⟨0, by omega, rfl, l0, ⟨HN0.out.symm⟩, HE⟩
  case round =>
    clear HE
    obtain ⟨i, hi, rfl, l, HL, HE⟩ := hrel
    have hx1 : wr.cell? ⟨g1, 1, none⟩ = some (.slice A2 n0 p2) := HE.out.at_ 0 1 rfl rfl
    by_cases hlt : i < n0
    · have hd1 : decide ((i : Int) < (n0 : Int)) = true := by simp; omega
      have hd2 : decide (i < n0) = true := by simp; omega
      obtain ⟨g, c, e, ⟨b0, b1, b2, hx30, hx31, hx32⟩, ⟨hf0, hf1, hf2⟩, hS2⟩ := HE.out.put_ i (by rw [HL.out]; exact hlt) ⟨82, 0, 0⟩
      injection e with e1 e2 e3
      subst e1 e3
      clear e2 HE
      have HS2 := Aside0.mk hS2
      have HLs := Aside0.mk (show (l.set i ⟨82, 0, 0⟩).length = n0 by rw [List.length_set]; exact HL.out)
      clear hS2
      go_wp2_with fail
      go_roundw
      case rel => exact ⟨i + 1, by omega, by go_num, _, HLs, HS2⟩
      case measure => simp [intOf]; omega
    · obtain rfl : i = n0 := by omega
      go_wp2_with fail
      clear hx1
      go_loopw [8] (fun v wr => ∃ m : Nat, ∃ vm : Value, m ≤ 64 ∧ v = .int .i64 m ∧ ∃ l : List S38, Aside0 (l.length ≤ 100000 + m) ∧ Aside0 (Env w0 (⟨g1, #[.int .i64 t, vm, .slice A3 l1.length p3, .bool fl], 24⟩ :: ⟨g2, #[.int .i64 t, .slice A4 i p4, .slice A5 l1.length p5, .bool fl], 24⟩ :: ⟨g0, #[.int .i64 t, u0, u1, .bool fl], 24⟩ :: B) (⟨a2, k38, 38, vm, l⟩ :: ⟨a3, k38, 38, .slice A3 l1.length p3, l1⟩ :: ⟨a4, k38, 38, .slice A4 i p4, l0⟩ :: ⟨a5, k38, 38, .slice A5 l1.length p5, l1⟩ :: R) wr)) (fun v _ => 64 - (intOf v).toNat)
      case atStart => exact ⟨0, _, by omega, rfl, l, ⟨by have := HL.out; omega⟩, HE⟩
      case round =>
        clear HE HL
        obtain ⟨m, vm, hm, rfl, l2, HL, HE⟩ := hrel
        by_cases hlt3 : m < 64
        · have hd1 : decide ((m : Int) < 64) = true := by simp; omega
          obtain ⟨P, hR, hK⟩ := HE.out.write
          have hx1 : wr.cell? ⟨g1, 1, none⟩ = some vm := HE.out.at_ 0 1 rfl rfl
          have G1 := Aside0.mk (show (l2.length + 1) * 24 ≤ 140737488355328 by have := HL.out; omega)
          have G3 := Aside0.mk (Kd.R_mono (ok' := fun k => P k ∨ wr.heap.size ≤ k) hR (fun k h => .inl h))
          have G9 := Aside0.mk HE.out.out
          have GS := Aside0.mk HE.out.size
          have GA := Aside0.mk (fun (v1 : Value) (w1 : World) => Env.app38 (W1 := w1) (u' := v1) (l' := l2 ++ [⟨83, 0, 0⟩]) hK hR)
          have HL2 := Aside0.mk (show (l2 ++ [(⟨83, 0, 0⟩ : S38)]).length ≤ 100000 + (m + 1) by rw [List.length_append, List.length_singleton]; have := HL.out; omega)
          clear HE hR hK
          go_wp2_with (first
            | ((with_reducible refine gate_builtin (b := .append) (xs := #[.tmp 32, .tmp 34]) rfl ?_); at_builtin; refine Kd.R_append k38 (w0 := w0) w0.heap.size rfl (.tmp 32) (.tmp 34) 22 38 (.agg #[.int .i64 0, .int .i64 0, .int .i64 0]) 24 rfl Tryd.underlying22 info38 rfl (by decide) (by omega) vm l2 ⟨83, 0, 0⟩ [.int .i64 83, .int .i64 0, .int .i64 0] (fun k => P k ∨ wr.heap.size ≤ k) (fun _ => False) rfl rfl (k38_mkM _ _ _ _) (fun _ hk => hk.elim) (fun k hk => .inr hk) G3.out G9.out GS.out (by have := G1.out; omega) ?_; intro v1 w1 ho hb hg hat; have hE := GA.out v1 w1 ho hb hg; obtain ⟨Ax, cx, rfl⟩ := Kd.R_slice ho; have hx2 : w1.cell? ⟨g1, 1, none⟩ = some vm := hE.at_ 0 1 rfl rfl; have hff : w1.frozen? ⟨g1, 1, none⟩ = false := hE.fr_ 0 1 rfl; have hE2 := hE.set 1 (.slice Ax (l2 ++ [(⟨83, 0, 0⟩ : S38)]).length cx); clear hE; rw [List.length_append, List.length_singleton] at hE2; have HQ1 : Aside0 (Env w0 (⟨g1, #[.int .i64 t, .slice Ax (l2.length + 1) cx, .slice A3 l1.length p3, .bool fl], 24⟩ :: _) _ _) := Aside0.mk hE2; clear ho hb hg hat GA G1 G3 G9 GS hE2))
          go_roundw
          case rel => exact ⟨m + 1, _, by omega, by go_num, _, HL2, HQ1⟩
          case measure => simp [intOf]; omega
        · obtain rfl : m = 64 := by omega
          have hx2 : wr.cell? ⟨g1, 2, none⟩ = some (.slice A3 l1.length p3) := HE.out.at_ 0 2 rfl rfl
          have hx3 : wr.cell? ⟨g2, 2, none⟩ = some (.slice A5 l1.length p5) := HE.out.at_ 1 2 rfl rfl
          have GC := Aside0.mk (same_any A3 A5 l1.length p3 p5 l1 wr (HE.out.row_ 1 rfl) rfl (HE.out.cap_ 1 rfl).2 (HE.out.row_ 3 rfl) (HE.out.cap_ 3 rfl).2 (by have := HL1.out; omega))
          go_wp2_with fail
          refine GC.out.mono ?_
          rintro e w6 ⟨rfl, hB⟩
          have G6 := Aside0.mk ((HE.out.below hB).sub (B' := B) (R' := R) (.cons _ (.cons _ (.cons _ (List.Sublist.refl _)))) (.cons _ (.cons _ (.cons _ (.cons _ (List.Sublist.refl _))))))
          clear hB
          go_wp2_with fail
          go_ret
          exact ⟨rfl, G6.out⟩
end Go.Proofs.YtponmfnegdlppaaDoor.P

end
section
/- A book's lists without the marks behind them. -/
namespace Go.Proofs.YtponmfnegdlppaaDoor.P
open Go.RowKit Go.Proofs.YtponmfnegdlppaaDoorW.PrintWords Go.Proofs.YtponmfnegdlppaaDoorW.PrintLast Go.Proofs.YtponmfnegdlppaaDoorW.PrintMore
set_option linter.unusedVariables false
set_option linter.unusedSimpArgs false

theorem C_front {W : World} {A : Option Addr} {l : List S38} (h : Kd.C k38 W A (l ++ marks).length (l ++ marks)) : Kd.C k38 W A l.length l := by
  have q := Kd.C_take (m := l.length) h (by rw [List.length_append]; omega)
  rw [List.take_left] at q
  exact q
theorem Env.front {w0 W : World} {B : List Bx} {R : List It} {c cp : Nat} {A : Option Addr} {l : List S38} (h : Env w0 B (⟨c, k38, 38, .slice A (l ++ marks).length cp, l ++ marks⟩ :: R) W) : Env w0 B (⟨c, k38, 38, .slice A l.length cp, l⟩ :: R) W := by
  have q := h.take (m := l.length) (by rw [List.length_append]; omega)
  rw [List.take_left] at q
  exact q
end Go.Proofs.YtponmfnegdlppaaDoor.P

end
section
/- Words for the walk of the law on asks: rows of tasks written and grown; one number of a state written. -/
namespace Go.Proofs.YtponmfnegdlppaaDoor.P
open Go.RowKit Go.Proofs.YtponmfnegdlppaaDoorW.PrintWords Go.Proofs.YtponmfnegdlppaaDoorW.PrintLast Go.Proofs.YtponmfnegdlppaaDoorW.PrintMore
set_option linter.unusedVariables false
set_option linter.unusedSimpArgs false

theorem put29 {W : World} {base : Nat} {P : Nat → Prop} {v : Value} {l : List S29} (h : Kd.R k29 29 W base P v l) (i : Nat) (hi : i < l.length) (x : S29) :
    ∃ g c, v = .slice (some ⟨g, 0, none⟩) l.length c ∧ P g ∧ base ≤ g ∧
      (∃ a0 a1 : Int, W.cell? ⟨g, i * 2, none⟩ = some (.int .i64 a0) ∧ W.cell? ⟨g, i * 2 + 1, none⟩ = some (.int .i64 a1)) ∧
      (W.frozen? ⟨g, i * 2, none⟩ = false ∧ W.frozen? ⟨g, i * 2 + 1, none⟩ = false) ∧
      Kd.R k29 29 ((W.setCell ⟨g, i * 2, none⟩ (.int .i64 x.f0)).setCell ⟨g, i * 2 + 1, none⟩ (.int .i64 x.f1)) base P v (l.set i x) ∧
      W.grownBy ((W.setCell ⟨g, i * 2, none⟩ (.int .i64 x.f0)).setCell ⟨g, i * 2 + 1, none⟩ (.int .i64 x.f1)) (some g) := by
  obtain ⟨g, c, rfl, gb, gl, _⟩ := Kd.R_form h (by omega)
  obtain ⟨ce, hcl, hM, hcc, hfr⟩ := Kd.R_elem h z29 (i : Int) (by omega) (by omega)
  obtain rfl := k29_openM hM
  have hP := Kd.R_seg h (i : Int) (by omega) (by omega) (seg := [.int .i64 x.f0, .int .i64 x.f1]) (j := 0) hcl hcc (show 2 ≤ 2 from by decide) (x' := x) (k29_mkM _ _ _ x) (fun _ hk => hk)
  rw [Int.toNat_natCast] at hcc hfr hP
  exact ⟨g, c, rfl, h.1 _ rfl, gb, ⟨_, _, hcc 0 _ rfl, hcc 1 _ rfl⟩, ⟨hfr 0, hfr 1⟩, hP.1, hP.2⟩
theorem Env.putt {w0 W : World} {B : List Bx} {R : List It} {c : Nat} {u : Value} {l : List S29} (h : Env w0 B (⟨c, k29, 29, u, l⟩ :: R) W) (i : Nat) (hi : i < l.length) (x : S29) :
    ∃ g cp, u = .slice (some ⟨g, 0, none⟩) l.length cp ∧
      (∃ a0 a1 : Int, W.cell? ⟨g, i * 2, none⟩ = some (.int .i64 a0) ∧ W.cell? ⟨g, i * 2 + 1, none⟩ = some (.int .i64 a1)) ∧
      (W.frozen? ⟨g, i * 2, none⟩ = false ∧ W.frozen? ⟨g, i * 2 + 1, none⟩ = false) ∧
      Env w0 B (⟨c, k29, 29, u, l.set i x⟩ :: R) ((W.setCell ⟨g, i * 2, none⟩ (.int .i64 x.f0)).setCell ⟨g, i * 2 + 1, none⟩ (.int .i64 x.f1)) := by
  obtain ⟨P, hR, hK⟩ := h.write
  obtain ⟨g, cp, e, hPg, hbg, hx, hf, hR2, hg⟩ := put29 hR i hi x
  exact ⟨g, cp, e, hx, hf, hK _ _ _ (Kept.of_grown hg (Kept.refl W P) (fun k e => .inl (by injection e with e; subst e; exact hPg))) ((h.out.setCell hbg _).setCell hbg _) (Kd.R_mono hR2 (fun k hk => .inl hk))⟩
theorem Env.app29 {w0 W W1 : World} {B : List Bx} {R : List It} {c : Nat} {u u' : Value} {l l' : List S29} {P : Nat → Prop}
    (hK : ∀ (W' : World) (v' : Value) (l' : List S29), Kept W W' P → Below w0.heap.size w0 W' → Kd.R k29 29 W' w0.heap.size (fun k => P k ∨ W.heap.size ≤ k) v' l' → Env w0 B (⟨c, k29, 29, v', l'⟩ :: R) W') (hR : Kd.R k29 29 W w0.heap.size P u l)
    (ho : Kd.R k29 29 W1 w0.heap.size (fun k => P k ∨ W.heap.size ≤ k) u' l') (hb : Below w0.heap.size w0 W1) (hg : W.grownBy W1 u.ownBlock) : Env w0 B (⟨c, k29, 29, u', l'⟩ :: R) W1 :=
  hK W1 u' l' (Kept.of_grown hg (Kept.refl W P) (fun k e => .inl (hR.1 k e))) hb ho
/-- The number of a state's last attempt is written. -/
theorem Env.att {w0 W : World} {B : List Bx} {R : List It} {c : Nat} {u : Value} {l : List S38} (h : Env w0 B (⟨c, k38, 38, u, l⟩ :: R) W) (i : Nat) (hi : i < l.length) :
    ∃ g cp, u = .slice (some ⟨g, 0, none⟩) l.length cp ∧ W.cell? ⟨g, i * 3 + 1, none⟩ = some (.int .i64 (l[i]).f1) ∧ W.frozen? ⟨g, i * 3 + 1, none⟩ = false ∧
      ∀ y : Int, Env w0 B (⟨c, k38, 38, u, l.set i ⟨(l[i]).f0, y, (l[i]).f2⟩⟩ :: R) (W.setCell ⟨g, i * 3 + 1, none⟩ (.int .i64 y)) := by
  obtain ⟨P, hR, hK⟩ := h.write
  obtain ⟨g, cp, rfl, gb, gl, _⟩ := Kd.R_form hR (by omega)
  obtain ⟨ce, hcl, hM, hcc, hfr⟩ := Kd.R_elem hR z38 (i : Int) (by omega) (by omega)
  obtain rfl := k38_openM hM
  have e : rd_T38 l (i : Int) = l[i] := rd38 l i hi
  have e2 : l.getD (i : Int).toNat z38 = l[i] := e
  rw [e2] at hcc hM
  refine ⟨g, cp, rfl, ?_, ?_, fun y => ?_⟩
  · have := hcc 1 _ rfl
    rw [Int.toNat_natCast] at this
    exact this
  · have := hfr 1
    rw [Int.toNat_natCast] at this
    exact this
  · have hP := Kd.R_seg hR (i : Int) (by omega) (by omega) (seg := [.int .i64 y]) (j := 1) (c := [.int .i64 (l[i]).f0, .int .i64 (l[i]).f1, .int .i64 (l[i]).f2]) rfl hcc (show 2 ≤ 3 from by decide) (x' := ⟨(l[i]).f0, y, (l[i]).f2⟩) (k38_mkM _ _ _ _) (fun _ hk => hk)
    rw [Int.toNat_natCast] at hP
    exact hK _ _ _ (Kept.of_grown hP.2 (Kept.refl W P) (fun k e => .inl (by injection e with e; subst e; exact hR.1 _ rfl))) (h.out.setCell gb _) (Kd.R_mono hP.1 (fun k hk => .inl hk))
end Go.Proofs.YtponmfnegdlppaaDoor.P

end
section
/- ledger.Check, by hand (printed by HCheck.gen.py). -/
namespace Go.Proofs.YtponmfnegdlppaaDoor.P
open Go.RowKit Go.Proofs.YtponmfnegdlppaaDoorW.PrintWords Go.Proofs.YtponmfnegdlppaaDoorW.PrintLast Go.Proofs.YtponmfnegdlppaaDoorW.PrintMore
set_option linter.unusedVariables false
set_option linter.unusedSimpArgs false

/-- a book's box -/
def bookAt (w : World) (g : Nat) (t : Int) (u0 u1 : Value) (fl : Bool) : Prop := w.heap[g]? = some (.cells #[.int .i64 t, u0, u1, .bool fl] 24 (0, 0))
section
variable {w : World} {g : Nat} {t : Int} {u0 u1 : Value} {fl : Bool}
theorem bookAt.c0 (h : bookAt w g t u0 u1 fl) : w.cell? ⟨g, 0, none⟩ = some (.int .i64 t) := by rw [cell_of_row _ _ _ _ _ _ h]; rfl
theorem bookAt.c1 (h : bookAt w g t u0 u1 fl) : w.cell? ⟨g, 1, none⟩ = some u0 := by rw [cell_of_row _ _ _ _ _ _ h]; rfl
theorem bookAt.c2 (h : bookAt w g t u0 u1 fl) : w.cell? ⟨g, 2, none⟩ = some u1 := by rw [cell_of_row _ _ _ _ _ _ h]; rfl
theorem bookAt.c3 (h : bookAt w g t u0 u1 fl) : w.cell? ⟨g, 3, none⟩ = some (.bool fl) := by rw [cell_of_row _ _ _ _ _ _ h]; rfl
theorem bookAt.lt (h : bookAt w g t u0 u1 fl) : g < w.heap.size := (Array.getElem?_eq_some_iff.1 h).1
theorem bookAt.below {w' : World} {b : Nat} (h : bookAt w g t u0 u1 fl) (hb : Below b w w') (hg : g < b) : bookAt w' g t u0 u1 fl := (hb.block _ hg).trans h
end
theorem ix0 (A : Option Addr) (n c : Nat) (B : Option Addr) (m d : Nat) (w : World) : Sem.run Tryd.prog (Instr.index 69 (Value.agg #[.slice A n c, .slice B m d]) (Value.int .i64 0)) w = .ok (.slice A n c) w := by kernel_rfl
theorem ix1 (A : Option Addr) (n c : Nat) (B : Option Addr) (m d : Nat) (w : World) : Sem.run Tryd.prog (Instr.index 69 (Value.agg #[.slice A n c, .slice B m d]) (Value.int .i64 1)) w = .ok (.slice B m d) w := by kernel_rfl
/-- a new task's cells behind the world -/
def world38 (w : World) (s : S38) : World := (((w.alloc (.cells #[.int .i64 0, .int .i64 0, .int .i64 0] 38)).setCell ⟨w.heap.size, 0, none⟩ (.int .i64 s.f0)).setCell ⟨w.heap.size, 1, none⟩ (.int .i64 s.f1)).setCell ⟨w.heap.size, 2, none⟩ (.int .i64 s.f2)

set_option maxHeartbeats 4000000 in
set_option maxRecDepth 100000 in
theorem check_any (t : Int) (fl : Bool) (A0 : Option Addr) (c0 : Nat) (l0 : List S38) (A1 : Option Addr) (c1 : Nat) (l1 : List S38) (w : World) (h0 : Kd.C k38 w A0 l0.length l0) (h1 : Kd.C k38 w A1 l1.length l1) (hT : Tab w) :
    Calls Tryd.prog 15 #[.agg #[.int .i64 t, .slice A0 l0.length c0, .slice A1 l1.length c1, .bool fl]] w fun e w' => e = .returned (.int .i64 (checkP t l0 l1 fl)) ∧ Below w.heap.size w w' := by
  have HT := Aside0.mk hT
  have H0 := Aside0.mk h0
  have H1 := Aside0.mk h1
  obtain ⟨r, hr⟩ : ∃ r, checkP t l0 l1 fl = r := ⟨_, rfl⟩
  rw [hr]
  clear hT h0 h1
  unfold checkP at hr
  have hbk : bookAt (w.alloc (.cells #[.int .i64 t, .slice A0 l0.length c0, .slice A1 l1.length c1, .bool fl] 24)) w.heap.size t (.slice A0 l0.length c0) (.slice A1 l1.length c1) fl := heap_alloc_new w _
  have hba : Below w.heap.size w (w.alloc (.cells #[.int .i64 t, .slice A0 l0.length c0, .slice A1 l1.length c1, .bool fl] 24)) := below_alloc (Below.refl _ _) _
  generalize hn0 : l0.length = n0 at *
  generalize hn1 : l1.length = n1 at *
  have HN0 := Aside0.mk hn0
  have HN1 := Aside0.mk hn1
  have HBK := Aside0.mk hbk
  have HBA := Aside0.mk hba
  have HR := Aside0.mk hr
  clear hn0 hn1 hbk hba hr
  have hu22 := Tryd.underlying22
  have hu38 := Tryd.underlying38
  have hu24 := Tryd.underlying24
  have hu69 := Tryd.underlying69
  have hu70 := Tryd.underlying70
  by_cases k1 : t < 1
  · have hr := HR.out
    rw [if_pos k1] at hr
    subst hr
    have dk1 : decide (t < 1) = true := decide_eq_true k1
    have hx0 := HBK.out.c0
    have hx1 := HBK.out.c1
    have hx2 := HBK.out.c2
    go_enter Tryd.func15, Tryd.ntmps15
    go_wp2_with fail
    go_ret
    exact ⟨rfl, HBA.out⟩
  have dk1 : decide (t < 1) = false := decide_eq_false k1
  by_cases k2 : 16 < t
  · have hr := HR.out
    rw [if_neg k1] at hr; rw [if_pos k2] at hr
    subst hr
    have dk2 : decide (16 < t) = true := decide_eq_true k2
    have hx0 := HBK.out.c0
    have hx1 := HBK.out.c1
    have hx2 := HBK.out.c2
    go_enter Tryd.func15, Tryd.ntmps15
    go_wp2_with fail
    go_ret
    exact ⟨rfl, HBA.out⟩
  have dk2 : decide (16 < t) = false := decide_eq_false k2
  by_cases k3 : 256 < n0
  · have hr := HR.out
    rw [if_neg k1] at hr; rw [if_neg k2] at hr; rw [if_pos k3] at hr
    subst hr
    have dk3 : decide (256 < n0) = true := decide_eq_true k3
    have ek3 : decide ((256 : Int) < (n0 : Int)) = true := decide_eq_true (by omega)
    have hx0 := HBK.out.c0
    have hx1 := HBK.out.c1
    have hx2 := HBK.out.c2
    go_enter Tryd.func15, Tryd.ntmps15
    go_wp2_with fail
    go_ret
    exact ⟨rfl, HBA.out⟩
  have dk3 : decide (256 < n0) = false := decide_eq_false k3
  have ek3 : decide ((256 : Int) < (n0 : Int)) = false := decide_eq_false (by omega)
  by_cases k4 : n1 < 1
  · have hr := HR.out
    rw [if_neg k1] at hr; rw [if_neg k2] at hr; rw [if_neg k3] at hr; rw [if_pos k4] at hr
    subst hr
    have dk4 : decide (n1 < 1) = true := decide_eq_true k4
    have ek4 : decide ((n1 : Int) < 1) = true := decide_eq_true (by omega)
    have hx0 := HBK.out.c0
    have hx1 := HBK.out.c1
    have hx2 := HBK.out.c2
    go_enter Tryd.func15, Tryd.ntmps15
    go_wp2_with fail
    go_ret
    exact ⟨rfl, HBA.out⟩
  have dk4 : decide (n1 < 1) = false := decide_eq_false k4
  have ek4 : decide ((n1 : Int) < 1) = false := decide_eq_false (by omega)
  by_cases k5 : 65535 < n1
  · have hr := HR.out
    rw [if_neg k1] at hr; rw [if_neg k2] at hr; rw [if_neg k3] at hr; rw [if_neg k4] at hr; rw [if_pos k5] at hr
    subst hr
    have dk5 : decide (65535 < n1) = true := decide_eq_true k5
    have ek5 : decide ((65535 : Int) < (n1 : Int)) = true := decide_eq_true (by omega)
    have hx0 := HBK.out.c0
    have hx1 := HBK.out.c1
    have hx2 := HBK.out.c2
    go_enter Tryd.func15, Tryd.ntmps15
    go_wp2_with fail
    go_ret
    exact ⟨rfl, HBA.out⟩
  have dk5 : decide (65535 < n1) = false := decide_eq_false k5
  have ek5 : decide ((65535 : Int) < (n1 : Int)) = false := decide_eq_false (by omega)
  have hr := HR.out
  rw [if_neg k1, if_neg k2, if_neg k3, if_neg k4, if_neg k5] at hr
  clear HR
  have HR := Aside0.mk hr
  clear hr
  have ht1' : 1 ≤ t := by omega
  have ht2' : t ≤ 16 := by omega
  have hb0 : (n0 : Int) ≤ 256 := by omega
  have hb1 : (n1 : Int) ≤ 65535 := by omega
  have hx0 := HBK.out.c0
  have hx1 := HBK.out.c1
  have hx2 := HBK.out.c2
  go_enter Tryd.func15, Tryd.ntmps15
  go_wp2_with fail
  generalize w.alloc (.cells #[.int .i64 t, .slice A0 n0 c0, .slice A1 n1 c1, .bool fl] 24) = W1 at HBK HBA hx0 hx1 hx2 ⊢
  clear hx0 hx1 hx2 dk1 dk2 dk3 dk4 dk5 ek3 ek4 ek5 k1 k2 k3 k4 k5
  go_loopw [3, 39] (fun vf vo wr => ∃ f : Int, vf = .int .i64 f ∧ 0 ≤ f ∧ f ≤ 65535 * 2 ∧ ((vo = .int .i64 0 ∧ f = 0 ∧ Aside0 (scan0 t l0 l1 fl f = r)) ∨ (vo = .int .i64 1 ∧ f ≤ 256 ∧ Aside0 (scan1 t l1 fl f = r)) ∨ (vo = .int .i64 2 ∧ Aside0 (finP fl f = r))) ∧ Aside0 (bookAt wr w.heap.size t (.slice A0 n0 c0) (.slice A1 n1 c1) fl) ∧ Aside0 (Below w.heap.size w wr)) (fun _ vo _ => 2 - (intOf vo).toNat)
  case atStart => exact ⟨0, rfl, by omega, by omega, .inl ⟨rfl, rfl, HR⟩, HBK, HBA⟩
  case round =>
    clear HR HBK HBA
    obtain ⟨f, rfl, hf0, hf1, ho, HBK, HBA⟩ := hrel
    rcases ho with ⟨rfl, rfl, HR⟩ | ⟨rfl, hf2, HR⟩ | ⟨rfl, HR⟩
    · have hix := ix0 A0 n0 c0 A1 n1 c1
      go_wp2_with fail
      clear hix
      go_loopw [3, 45] (fun vf vi wr => ∃ (i : Nat) (f : Int), i ≤ n0 ∧ vf = .int .i64 f ∧ vi = .int .i64 i ∧ 0 ≤ f ∧ f ≤ 0 + i ∧ Aside0 ((match scanP t false (l0.drop i) f with | none => 190 | some f2 => scan1 t l1 fl f2) = r) ∧ Aside0 (bookAt wr w.heap.size t (.slice A0 n0 c0) (.slice A1 n1 c1) fl) ∧ Aside0 (Below w.heap.size w wr)) (fun _ vi _ => n0 - (intOf vi).toNat)
      case atStart => exact ⟨0, _, by omega, rfl, rfl, by omega, by omega, by rw [List.drop_zero]; exact HR, HBK, HBA⟩
      case round =>
        clear HR HBK HBA
        obtain ⟨i, f, hi, rfl, rfl, hf0, hf1, HR, HBK, HBA⟩ := hrel
        by_cases hlt : i < n0
        · have hd1 : decide ((i : Int) < (n0 : Int)) = true := by simp; omega
          have hd2 : decide (i < n0) = true := by simp; omega
          have hr := HR.out
          have hil : i < l0.length := by have := HN0.out; omega
          rw [drop38 l0 i hil] at hr
          obtain ⟨ad, e, hx0, hx1, hx2⟩ := at_T38 H0.out (i : Int) (by omega) (by have := HN0.out; omega)
          subst e
          generalize rd_T38 l0 (i : Int) = s at *
          rw [Int.toNat_natCast] at hx0 hx1 hx2
          replace hx0 := (HBA.out.cell (World.block_lt_of_cell? w _ hx0)).trans hx0
          replace hx1 := (HBA.out.cell (World.block_lt_of_cell? w _ hx1)).trans hx1
          replace hx2 := (HBA.out.cell (World.block_lt_of_cell? w _ hx2)).trans hx2
          have HS := Aside0.mk hr
          clear hr
          go_wp2_with fail
          clear hx0 hx1 hx2
          obtain ⟨sa, sb, sc⟩ := s
          dsimp only at *
          have hbk := HBK.out
          have hba := HBA.out
          have hya := below_alloc (Below.refl wr.heap.size wr) (.cells #[.int .i64 sa, .int .i64 sb, .int .i64 sc] 38)
          have hyr := heap_alloc_new wr (.cells #[.int .i64 sa, .int .i64 sb, .int .i64 sc] 38)
          have HB2 := Aside0.mk (hbk.below hya hbk.lt)
          have HA2 := Aside0.mk (below_step hba hya)
          generalize wr.alloc (.cells #[.int .i64 sa, .int .i64 sb, .int .i64 sc] 38) = W2 at hya hyr HB2 HA2 ⊢
          have hy0 : W2.cell? ⟨wr.heap.size, 0, none⟩ = some (.int .i64 sa) := by rw [cell_of_row _ _ _ _ _ _ hyr]; rfl
          have hy1 : W2.cell? ⟨wr.heap.size, 1, none⟩ = some (.int .i64 sb) := by rw [cell_of_row _ _ _ _ _ _ hyr]; rfl
          have hy2 : W2.cell? ⟨wr.heap.size, 2, none⟩ = some (.int .i64 sc) := by rw [cell_of_row _ _ _ _ _ _ hyr]; rfl
          have hz0 := HB2.out.c0
          have HT2 := HT.out.below HA2.out
          have ht0 := HT2.c0
          have ht1 := HT2.c1
          have ht2 := HT2.c2
          have ht3 := HT2.c3
          clear hya hyr hbk hba HT2 HBK HBA
          by_cases b1 : sa < 0
          · have d1 : decide (sa < 0) = true := decide_eq_true (by omega)
            have hr := HS.out
            have hg : goodP t false ⟨sa, sb, sc⟩ = false := by simp [goodP]; omega
            rw [scanP, if_neg (by rw [hg]; decide)] at hr
            subst hr
            clear HS hg
            go_quiet (fail)
            go_wp2_with fail
            go_ret
            exact ⟨rfl, by repeat (first | exact HA2.out | apply pw_below_drewN | apply below_drew1)⟩
          have d1 : decide (sa < 0) = false := decide_eq_false (by omega)
          by_cases b2 : 4 ≤ sa
          · have d2 : decide (4 ≤ sa) = true := decide_eq_true (by omega)
            have hr := HS.out
            have hg : goodP t false ⟨sa, sb, sc⟩ = false := by simp [goodP]; omega
            rw [scanP, if_neg (by rw [hg]; decide)] at hr
            subst hr
            clear HS hg
            go_quiet (fail)
            go_wp2_with fail
            go_ret
            exact ⟨rfl, by repeat (first | exact HA2.out | apply pw_below_drewN | apply below_drew1)⟩
          have d2 : decide (4 ≤ sa) = false := decide_eq_false (by omega)
          by_cases b3 : sa = 2
          · have d3 : (sa == 2) = true := by simp; omega
            have hr := HS.out
            have hg : goodP t false ⟨sa, sb, sc⟩ = false := by simp [goodP]; omega
            rw [scanP, if_neg (by rw [hg]; decide)] at hr
            subst hr
            clear HS hg
            go_quiet (fail)
            go_wp2_with fail
            go_ret
            exact ⟨rfl, by repeat (first | exact HA2.out | apply pw_below_drewN | apply below_drew1)⟩
          have d3 : (sa == 2) = false := by simp; omega
          by_cases b4 : sc < 0
          · have d4 : decide (sc < 0) = true := decide_eq_true (by omega)
            have hr := HS.out
            have hg : goodP t false ⟨sa, sb, sc⟩ = false := by simp [goodP]; omega
            rw [scanP, if_neg (by rw [hg]; decide)] at hr
            subst hr
            clear HS hg
            go_quiet (fail)
            go_wp2_with fail
            go_ret
            exact ⟨rfl, by repeat (first | exact HA2.out | apply pw_below_drewN | apply below_drew1)⟩
          have d4 : decide (sc < 0) = false := decide_eq_false (by omega)
          by_cases b5 : t < sc
          · have d5 : decide (t < sc) = true := decide_eq_true (by omega)
            have hr := HS.out
            have hg : goodP t false ⟨sa, sb, sc⟩ = false := by simp [goodP]; omega
            rw [scanP, if_neg (by rw [hg]; decide)] at hr
            subst hr
            clear HS hg
            go_quiet (fail)
            go_wp2_with fail
            go_ret
            exact ⟨rfl, by repeat (first | exact HA2.out | apply pw_below_drewN | apply below_drew1)⟩
          have d5 : decide (t < sc) = false := decide_eq_false (by omega)
          have hv : sa = 0 ∨ sa = 1 ∨ sa = 3 := by omega
          rcases hv with rfl | rfl | rfl
          · have hw : wrap64 (sc + 0) = sc + 0 := by unfold wrap64; omega
            have hw2 : IntKind.i64.wrap (sc + 0) = sc + 0 := by rw [i64_w]; exact hw
            by_cases b6 : sb = sc + 0
            · subst b6
              go_quiet (fail)
              by_cases b7 : sc = t
              · have d7 : (sc == t) = true := by simp; omega
                have hr := HS.out
                have hg : goodP t false ⟨0, sc + 0, sc⟩ = true := by simp [goodP]; omega
                rw [scanP, if_pos hg, if_pos b7] at hr
                have HR2 := Aside0.mk hr
                clear hr hg HS
                have hw3 : IntKind.i64.wrap (f + 1) = f + 1 := by rw [i64_w]; unfold wrap64; omega
                go_wp2_with fail
                go_roundw
                case rel => exact ⟨i + 1, f + 1, by omega, by first | rfl | go_num, by go_num, by omega, by omega, HR2, ⟨HB2.out.below (pw_below_drewN (Below.refl _ _) _) HB2.out.lt⟩, ⟨by repeat (first | exact HA2.out | apply pw_below_drewN | apply below_drew1)⟩⟩
                case measure => simp [intOf]; omega
              · have d7 : (sc == t) = false := by simp; omega
                have hr := HS.out
                have hg : goodP t false ⟨0, sc + 0, sc⟩ = true := by simp [goodP]; omega
                rw [scanP, if_pos hg, if_neg b7] at hr
                have HR2 := Aside0.mk hr
                clear hr hg HS
                go_wp2_with fail
                go_roundw
                case rel => exact ⟨i + 1, f, by omega, by first | rfl | go_num, by go_num, by omega, by omega, HR2, ⟨HB2.out.below (pw_below_drewN (Below.refl _ _) _) HB2.out.lt⟩, ⟨by repeat (first | exact HA2.out | apply pw_below_drewN | apply below_drew1)⟩⟩
                case measure => simp [intOf]; omega
            · have d6 : (sb != sc + 0) = true := by simp; omega
              have d6b : (sb == sc + 0) = false := by simp; omega
              have hr := HS.out
              have hg : goodP t false ⟨0, sb, sc⟩ = false := by simp [goodP]; omega
              rw [scanP, if_neg (by rw [hg]; decide)] at hr
              subst hr
              clear HS hg
              go_quiet (fail)
              go_wp2_with fail
              go_ret
              exact ⟨rfl, by repeat (first | exact HA2.out | apply pw_below_drewN | apply below_drew1)⟩
          · have hw : wrap64 (sc + 1) = sc + 1 := by unfold wrap64; omega
            have hw2 : IntKind.i64.wrap (sc + 1) = sc + 1 := by rw [i64_w]; exact hw
            by_cases b6 : sb = sc + 1
            · subst b6
              go_quiet (fail)
              by_cases b7 : sc = t
              · have d7 : (sc == t) = true := by simp; omega
                have hr := HS.out
                have hg : goodP t false ⟨1, sc + 1, sc⟩ = false := by simp [goodP]; omega
                rw [scanP, if_neg (by rw [hg]; decide)] at hr
                subst hr
                clear HS hg
                have hw3 : IntKind.i64.wrap (f + 1) = f + 1 := by rw [i64_w]; unfold wrap64; omega
                go_wp2_with fail
                go_ret
                exact ⟨rfl, by repeat (first | exact HA2.out | apply pw_below_drewN | apply below_drew1)⟩
              · have d7 : (sc == t) = false := by simp; omega
                have hr := HS.out
                have hg : goodP t false ⟨1, sc + 1, sc⟩ = true := by simp [goodP]; omega
                rw [scanP, if_pos hg, if_neg b7] at hr
                have HR2 := Aside0.mk hr
                clear hr hg HS
                go_wp2_with fail
                go_roundw
                case rel => exact ⟨i + 1, f, by omega, by first | rfl | go_num, by go_num, by omega, by omega, HR2, ⟨HB2.out.below (pw_below_drewN (Below.refl _ _) _) HB2.out.lt⟩, ⟨by repeat (first | exact HA2.out | apply pw_below_drewN | apply below_drew1)⟩⟩
                case measure => simp [intOf]; omega
            · have d6 : (sb != sc + 1) = true := by simp; omega
              have d6b : (sb == sc + 1) = false := by simp; omega
              have hr := HS.out
              have hg : goodP t false ⟨1, sb, sc⟩ = false := by simp [goodP]; omega
              rw [scanP, if_neg (by rw [hg]; decide)] at hr
              subst hr
              clear HS hg
              go_quiet (fail)
              go_wp2_with fail
              go_ret
              exact ⟨rfl, by repeat (first | exact HA2.out | apply pw_below_drewN | apply below_drew1)⟩
          · have hw : wrap64 (sc + 1) = sc + 1 := by unfold wrap64; omega
            have hw2 : IntKind.i64.wrap (sc + 1) = sc + 1 := by rw [i64_w]; exact hw
            by_cases b6 : sb = sc + 1
            · subst b6
              go_quiet (fail)
              by_cases b7 : sc = t
              · have d7 : (sc == t) = true := by simp; omega
                have hr := HS.out
                have hg : goodP t false ⟨3, sc + 1, sc⟩ = false := by simp [goodP]; omega
                rw [scanP, if_neg (by rw [hg]; decide)] at hr
                subst hr
                clear HS hg
                have hw3 : IntKind.i64.wrap (f + 1) = f + 1 := by rw [i64_w]; unfold wrap64; omega
                go_wp2_with fail
                go_ret
                exact ⟨rfl, by repeat (first | exact HA2.out | apply pw_below_drewN | apply below_drew1)⟩
              · have d7 : (sc == t) = false := by simp; omega
                have hr := HS.out
                have hg : goodP t false ⟨3, sc + 1, sc⟩ = true := by simp [goodP]; omega
                rw [scanP, if_pos hg, if_neg b7] at hr
                have HR2 := Aside0.mk hr
                clear hr hg HS
                go_wp2_with fail
                go_roundw
                case rel => exact ⟨i + 1, f, by omega, by first | rfl | go_num, by go_num, by omega, by omega, HR2, ⟨HB2.out.below (pw_below_drewN (Below.refl _ _) _) HB2.out.lt⟩, ⟨by repeat (first | exact HA2.out | apply pw_below_drewN | apply below_drew1)⟩⟩
                case measure => simp [intOf]; omega
            · have d6 : (sb != sc + 1) = true := by simp; omega
              have d6b : (sb == sc + 1) = false := by simp; omega
              have hr := HS.out
              have hg : goodP t false ⟨3, sb, sc⟩ = false := by simp [goodP]; omega
              rw [scanP, if_neg (by rw [hg]; decide)] at hr
              subst hr
              clear HS hg
              go_quiet (fail)
              go_wp2_with fail
              go_ret
              exact ⟨rfl, by repeat (first | exact HA2.out | apply pw_below_drewN | apply below_drew1)⟩
        · obtain rfl : i = n0 := by omega
          have hd1 : decide ((i : Int) < (i : Int)) = false := by simp
          have hr := HR.out
          rw [List.drop_eq_nil_of_le (by have := HN0.out; omega)] at hr
          have HR2 := Aside0.mk (show scan1 t l1 fl f = r from hr)
          clear hr HR
          go_wp2_with fail
          go_roundw
          case rel => exact ⟨f, rfl, by omega, by omega, .inr (.inl ⟨rfl, by omega, HR2⟩), HBK, HBA⟩
          case measure => simp [intOf]
    · have hix := ix1 A0 n0 c0 A1 n1 c1
      go_wp2_with fail
      clear hix
      go_loopw [3, 45] (fun vf vi wr => ∃ (i : Nat) (f : Int), i ≤ n1 ∧ vf = .int .i64 f ∧ vi = .int .i64 i ∧ 0 ≤ f ∧ f ≤ 256 + i ∧ Aside0 ((match scanP t true (l1.drop i) f with | none => 190 | some f2 => finP fl f2) = r) ∧ Aside0 (bookAt wr w.heap.size t (.slice A0 n0 c0) (.slice A1 n1 c1) fl) ∧ Aside0 (Below w.heap.size w wr)) (fun _ vi _ => n1 - (intOf vi).toNat)
      case atStart => exact ⟨0, _, by omega, rfl, rfl, by omega, by omega, by rw [List.drop_zero]; exact HR, HBK, HBA⟩
      case round =>
        clear HR HBK HBA
        obtain ⟨i, f, hi, rfl, rfl, hf0, hf1, HR, HBK, HBA⟩ := hrel
        by_cases hlt : i < n1
        · have hd1 : decide ((i : Int) < (n1 : Int)) = true := by simp; omega
          have hd2 : decide (i < n1) = true := by simp; omega
          have hr := HR.out
          have hil : i < l1.length := by have := HN1.out; omega
          rw [drop38 l1 i hil] at hr
          obtain ⟨ad, e, hx0, hx1, hx2⟩ := at_T38 H1.out (i : Int) (by omega) (by have := HN1.out; omega)
          subst e
          generalize rd_T38 l1 (i : Int) = s at *
          rw [Int.toNat_natCast] at hx0 hx1 hx2
          replace hx0 := (HBA.out.cell (World.block_lt_of_cell? w _ hx0)).trans hx0
          replace hx1 := (HBA.out.cell (World.block_lt_of_cell? w _ hx1)).trans hx1
          replace hx2 := (HBA.out.cell (World.block_lt_of_cell? w _ hx2)).trans hx2
          have HS := Aside0.mk hr
          clear hr
          go_wp2_with fail
          clear hx0 hx1 hx2
          obtain ⟨sa, sb, sc⟩ := s
          dsimp only at *
          have hbk := HBK.out
          have hba := HBA.out
          have hya := below_alloc (Below.refl wr.heap.size wr) (.cells #[.int .i64 sa, .int .i64 sb, .int .i64 sc] 38)
          have hyr := heap_alloc_new wr (.cells #[.int .i64 sa, .int .i64 sb, .int .i64 sc] 38)
          have HB2 := Aside0.mk (hbk.below hya hbk.lt)
          have HA2 := Aside0.mk (below_step hba hya)
          generalize wr.alloc (.cells #[.int .i64 sa, .int .i64 sb, .int .i64 sc] 38) = W2 at hya hyr HB2 HA2 ⊢
          have hy0 : W2.cell? ⟨wr.heap.size, 0, none⟩ = some (.int .i64 sa) := by rw [cell_of_row _ _ _ _ _ _ hyr]; rfl
          have hy1 : W2.cell? ⟨wr.heap.size, 1, none⟩ = some (.int .i64 sb) := by rw [cell_of_row _ _ _ _ _ _ hyr]; rfl
          have hy2 : W2.cell? ⟨wr.heap.size, 2, none⟩ = some (.int .i64 sc) := by rw [cell_of_row _ _ _ _ _ _ hyr]; rfl
          have hz0 := HB2.out.c0
          have HT2 := HT.out.below HA2.out
          have ht0 := HT2.c0
          have ht1 := HT2.c1
          have ht2 := HT2.c2
          have ht3 := HT2.c3
          clear hya hyr hbk hba HT2 HBK HBA
          by_cases b1 : sa < 0
          · have d1 : decide (sa < 0) = true := decide_eq_true (by omega)
            have hr := HS.out
            have hg : goodP t true ⟨sa, sb, sc⟩ = false := by simp [goodP]; omega
            rw [scanP, if_neg (by rw [hg]; decide)] at hr
            subst hr
            clear HS hg
            go_quiet (fail)
            go_wp2_with fail
            go_ret
            exact ⟨rfl, by repeat (first | exact HA2.out | apply pw_below_drewN | apply below_drew1)⟩
          have d1 : decide (sa < 0) = false := decide_eq_false (by omega)
          by_cases b2 : 4 ≤ sa
          · have d2 : decide (4 ≤ sa) = true := decide_eq_true (by omega)
            have hr := HS.out
            have hg : goodP t true ⟨sa, sb, sc⟩ = false := by simp [goodP]; omega
            rw [scanP, if_neg (by rw [hg]; decide)] at hr
            subst hr
            clear HS hg
            go_quiet (fail)
            go_wp2_with fail
            go_ret
            exact ⟨rfl, by repeat (first | exact HA2.out | apply pw_below_drewN | apply below_drew1)⟩
          have d2 : decide (4 ≤ sa) = false := decide_eq_false (by omega)
          by_cases b4 : sc < 0
          · have d4 : decide (sc < 0) = true := decide_eq_true (by omega)
            by_cases b3 : sa = 2
            · have d3 : (sa == 2) = true := by simp; omega
              have hr := HS.out
              have hg : goodP t true ⟨sa, sb, sc⟩ = false := by simp [goodP]; omega
              rw [scanP, if_neg (by rw [hg]; decide)] at hr
              subst hr
              clear HS hg
              go_quiet (fail)
              go_wp2_with fail
              go_ret
              exact ⟨rfl, by repeat (first | exact HA2.out | apply pw_below_drewN | apply below_drew1)⟩
            · have d3 : (sa == 2) = false := by simp; omega
              have hr := HS.out
              have hg : goodP t true ⟨sa, sb, sc⟩ = false := by simp [goodP]; omega
              rw [scanP, if_neg (by rw [hg]; decide)] at hr
              subst hr
              clear HS hg
              go_quiet (fail)
              go_wp2_with fail
              go_ret
              exact ⟨rfl, by repeat (first | exact HA2.out | apply pw_below_drewN | apply below_drew1)⟩
          have d4 : decide (sc < 0) = false := decide_eq_false (by omega)
          by_cases b5 : t < sc
          · have d5 : decide (t < sc) = true := decide_eq_true (by omega)
            by_cases b3 : sa = 2
            · have d3 : (sa == 2) = true := by simp; omega
              have hr := HS.out
              have hg : goodP t true ⟨sa, sb, sc⟩ = false := by simp [goodP]; omega
              rw [scanP, if_neg (by rw [hg]; decide)] at hr
              subst hr
              clear HS hg
              go_quiet (fail)
              go_wp2_with fail
              go_ret
              exact ⟨rfl, by repeat (first | exact HA2.out | apply pw_below_drewN | apply below_drew1)⟩
            · have d3 : (sa == 2) = false := by simp; omega
              have hr := HS.out
              have hg : goodP t true ⟨sa, sb, sc⟩ = false := by simp [goodP]; omega
              rw [scanP, if_neg (by rw [hg]; decide)] at hr
              subst hr
              clear HS hg
              go_quiet (fail)
              go_wp2_with fail
              go_ret
              exact ⟨rfl, by repeat (first | exact HA2.out | apply pw_below_drewN | apply below_drew1)⟩
          have d5 : decide (t < sc) = false := decide_eq_false (by omega)
          have hv : sa = 0 ∨ sa = 1 ∨ sa = 2 ∨ sa = 3 := by omega
          rcases hv with rfl | rfl | rfl | rfl
          · have hw : wrap64 (sc + 0) = sc + 0 := by unfold wrap64; omega
            have hw2 : IntKind.i64.wrap (sc + 0) = sc + 0 := by rw [i64_w]; exact hw
            by_cases b6 : sb = sc + 0
            · subst b6
              go_quiet (fail)
              by_cases b7 : sc = t
              · have d7 : (sc == t) = true := by simp; omega
                have hr := HS.out
                have hg : goodP t true ⟨0, sc + 0, sc⟩ = true := by simp [goodP]; omega
                rw [scanP, if_pos hg, if_pos b7] at hr
                have HR2 := Aside0.mk hr
                clear hr hg HS
                have hw3 : IntKind.i64.wrap (f + 1) = f + 1 := by rw [i64_w]; unfold wrap64; omega
                go_wp2_with fail
                go_roundw
                case rel => exact ⟨i + 1, f + 1, by omega, by first | rfl | go_num, by go_num, by omega, by omega, HR2, ⟨HB2.out.below (pw_below_drewN (Below.refl _ _) _) HB2.out.lt⟩, ⟨by repeat (first | exact HA2.out | apply pw_below_drewN | apply below_drew1)⟩⟩
                case measure => simp [intOf]; omega
              · have d7 : (sc == t) = false := by simp; omega
                have hr := HS.out
                have hg : goodP t true ⟨0, sc + 0, sc⟩ = true := by simp [goodP]; omega
                rw [scanP, if_pos hg, if_neg b7] at hr
                have HR2 := Aside0.mk hr
                clear hr hg HS
                go_wp2_with fail
                go_roundw
                case rel => exact ⟨i + 1, f, by omega, by first | rfl | go_num, by go_num, by omega, by omega, HR2, ⟨HB2.out.below (pw_below_drewN (Below.refl _ _) _) HB2.out.lt⟩, ⟨by repeat (first | exact HA2.out | apply pw_below_drewN | apply below_drew1)⟩⟩
                case measure => simp [intOf]; omega
            · have d6 : (sb != sc + 0) = true := by simp; omega
              have d6b : (sb == sc + 0) = false := by simp; omega
              have hr := HS.out
              have hg : goodP t true ⟨0, sb, sc⟩ = false := by simp [goodP]; omega
              rw [scanP, if_neg (by rw [hg]; decide)] at hr
              subst hr
              clear HS hg
              go_quiet (fail)
              go_wp2_with fail
              go_ret
              exact ⟨rfl, by repeat (first | exact HA2.out | apply pw_below_drewN | apply below_drew1)⟩
          · have hw : wrap64 (sc + 1) = sc + 1 := by unfold wrap64; omega
            have hw2 : IntKind.i64.wrap (sc + 1) = sc + 1 := by rw [i64_w]; exact hw
            by_cases b6 : sb = sc + 1
            · subst b6
              go_quiet (fail)
              by_cases b7 : sc = t
              · have d7 : (sc == t) = true := by simp; omega
                have hr := HS.out
                have hg : goodP t true ⟨1, sc + 1, sc⟩ = false := by simp [goodP]; omega
                rw [scanP, if_neg (by rw [hg]; decide)] at hr
                subst hr
                clear HS hg
                have hw3 : IntKind.i64.wrap (f + 1) = f + 1 := by rw [i64_w]; unfold wrap64; omega
                go_wp2_with fail
                go_ret
                exact ⟨rfl, by repeat (first | exact HA2.out | apply pw_below_drewN | apply below_drew1)⟩
              · have d7 : (sc == t) = false := by simp; omega
                have hr := HS.out
                have hg : goodP t true ⟨1, sc + 1, sc⟩ = true := by simp [goodP]; omega
                rw [scanP, if_pos hg, if_neg b7] at hr
                have HR2 := Aside0.mk hr
                clear hr hg HS
                go_wp2_with fail
                go_roundw
                case rel => exact ⟨i + 1, f, by omega, by first | rfl | go_num, by go_num, by omega, by omega, HR2, ⟨HB2.out.below (pw_below_drewN (Below.refl _ _) _) HB2.out.lt⟩, ⟨by repeat (first | exact HA2.out | apply pw_below_drewN | apply below_drew1)⟩⟩
                case measure => simp [intOf]; omega
            · have d6 : (sb != sc + 1) = true := by simp; omega
              have d6b : (sb == sc + 1) = false := by simp; omega
              have hr := HS.out
              have hg : goodP t true ⟨1, sb, sc⟩ = false := by simp [goodP]; omega
              rw [scanP, if_neg (by rw [hg]; decide)] at hr
              subst hr
              clear HS hg
              go_quiet (fail)
              go_wp2_with fail
              go_ret
              exact ⟨rfl, by repeat (first | exact HA2.out | apply pw_below_drewN | apply below_drew1)⟩
          · have hw : wrap64 (sc + 1) = sc + 1 := by unfold wrap64; omega
            have hw2 : IntKind.i64.wrap (sc + 1) = sc + 1 := by rw [i64_w]; exact hw
            by_cases b6 : sb = sc + 1
            · subst b6
              go_quiet (fail)
              by_cases b7 : sc = t
              · have d7 : (sc == t) = true := by simp; omega
                have hr := HS.out
                have hg : goodP t true ⟨2, sc + 1, sc⟩ = false := by simp [goodP]; omega
                rw [scanP, if_neg (by rw [hg]; decide)] at hr
                subst hr
                clear HS hg
                have hw3 : IntKind.i64.wrap (f + 1) = f + 1 := by rw [i64_w]; unfold wrap64; omega
                go_wp2_with fail
                go_ret
                exact ⟨rfl, by repeat (first | exact HA2.out | apply pw_below_drewN | apply below_drew1)⟩
              · have d7 : (sc == t) = false := by simp; omega
                have hr := HS.out
                have hg : goodP t true ⟨2, sc + 1, sc⟩ = true := by simp [goodP]; omega
                rw [scanP, if_pos hg, if_neg b7] at hr
                have HR2 := Aside0.mk hr
                clear hr hg HS
                go_wp2_with fail
                go_roundw
                case rel => exact ⟨i + 1, f, by omega, by first | rfl | go_num, by go_num, by omega, by omega, HR2, ⟨HB2.out.below (pw_below_drewN (Below.refl _ _) _) HB2.out.lt⟩, ⟨by repeat (first | exact HA2.out | apply pw_below_drewN | apply below_drew1)⟩⟩
                case measure => simp [intOf]; omega
            · have d6 : (sb != sc + 1) = true := by simp; omega
              have d6b : (sb == sc + 1) = false := by simp; omega
              have hr := HS.out
              have hg : goodP t true ⟨2, sb, sc⟩ = false := by simp [goodP]; omega
              rw [scanP, if_neg (by rw [hg]; decide)] at hr
              subst hr
              clear HS hg
              go_quiet (fail)
              go_wp2_with fail
              go_ret
              exact ⟨rfl, by repeat (first | exact HA2.out | apply pw_below_drewN | apply below_drew1)⟩
          · have hw : wrap64 (sc + 1) = sc + 1 := by unfold wrap64; omega
            have hw2 : IntKind.i64.wrap (sc + 1) = sc + 1 := by rw [i64_w]; exact hw
            by_cases b6 : sb = sc + 1
            · subst b6
              go_quiet (fail)
              by_cases b7 : sc = t
              · have d7 : (sc == t) = true := by simp; omega
                have hr := HS.out
                have hg : goodP t true ⟨3, sc + 1, sc⟩ = false := by simp [goodP]; omega
                rw [scanP, if_neg (by rw [hg]; decide)] at hr
                subst hr
                clear HS hg
                have hw3 : IntKind.i64.wrap (f + 1) = f + 1 := by rw [i64_w]; unfold wrap64; omega
                go_wp2_with fail
                go_ret
                exact ⟨rfl, by repeat (first | exact HA2.out | apply pw_below_drewN | apply below_drew1)⟩
              · have d7 : (sc == t) = false := by simp; omega
                have hr := HS.out
                have hg : goodP t true ⟨3, sc + 1, sc⟩ = true := by simp [goodP]; omega
                rw [scanP, if_pos hg, if_neg b7] at hr
                have HR2 := Aside0.mk hr
                clear hr hg HS
                go_wp2_with fail
                go_roundw
                case rel => exact ⟨i + 1, f, by omega, by first | rfl | go_num, by go_num, by omega, by omega, HR2, ⟨HB2.out.below (pw_below_drewN (Below.refl _ _) _) HB2.out.lt⟩, ⟨by repeat (first | exact HA2.out | apply pw_below_drewN | apply below_drew1)⟩⟩
                case measure => simp [intOf]; omega
            · have d6 : (sb != sc + 1) = true := by simp; omega
              have d6b : (sb == sc + 1) = false := by simp; omega
              have hr := HS.out
              have hg : goodP t true ⟨3, sb, sc⟩ = false := by simp [goodP]; omega
              rw [scanP, if_neg (by rw [hg]; decide)] at hr
              subst hr
              clear HS hg
              go_quiet (fail)
              go_wp2_with fail
              go_ret
              exact ⟨rfl, by repeat (first | exact HA2.out | apply pw_below_drewN | apply below_drew1)⟩
        · obtain rfl : i = n1 := by omega
          have hd1 : decide ((i : Int) < (i : Int)) = false := by simp
          have hr := HR.out
          rw [List.drop_eq_nil_of_le (by have := HN1.out; omega)] at hr
          have HR2 := Aside0.mk (show finP fl f = r from hr)
          clear hr HR
          go_wp2_with fail
          go_roundw
          case rel => exact ⟨f, rfl, by omega, by omega, .inr (.inr ⟨rfl, HR2⟩), HBK, HBA⟩
          case measure => simp [intOf]
    · have hr := HR.out
      have hz3 := HBK.out.c3
      unfold finP at hr
      by_cases g1 : 1 < f
      · rw [if_pos (.inl g1)] at hr
        subst hr
        have d1 : decide (1 < f) = true := decide_eq_true g1
        clear HR
        go_wp2_with fail
        go_ret
        exact ⟨rfl, by repeat (first | exact HBA.out | apply pw_below_drewN | apply below_drew1)⟩
      · have d1 : decide (1 < f) = false := decide_eq_false g1
        by_cases g2 : fl = decide (f = 1)
        · rw [if_neg (by rintro (h | h); exact g1 h; exact h g2)] at hr
          subst hr
          clear HR
          by_cases g3 : f = 1
          · have d3 : (f == 1) = true := by simp; omega
            obtain rfl : fl = true := by rw [g2]; exact decide_eq_true g3
            clear g2 g3 g1
            go_wp2_with fail
            go_ret
            exact ⟨rfl, by repeat (first | exact HBA.out | apply pw_below_drewN | apply below_drew1)⟩
          · have d3 : (f == 1) = false := by simp; omega
            obtain rfl : fl = false := by rw [g2]; exact decide_eq_false g3
            clear g2 g3 g1
            go_wp2_with fail
            go_ret
            exact ⟨rfl, by repeat (first | exact HBA.out | apply pw_below_drewN | apply below_drew1)⟩
        · rw [if_pos (.inr g2)] at hr
          subst hr
          clear HR
          by_cases g3 : f = 1
          · have d3 : (f == 1) = true := by simp; omega
            obtain rfl : fl = false := by rw [decide_eq_true g3] at g2; cases fl <;> simp_all
            go_wp2_with fail
            go_ret
            exact ⟨rfl, by repeat (first | exact HBA.out | apply pw_below_drewN | apply below_drew1)⟩
          · have d3 : (f == 1) = false := by simp; omega
            obtain rfl : fl = true := by rw [decide_eq_false g3] at g2; cases fl <;> simp_all
            go_wp2_with fail
            go_ret
            exact ⟨rfl, by repeat (first | exact HBA.out | apply pw_below_drewN | apply below_drew1)⟩
end Go.Proofs.YtponmfnegdlppaaDoor.P

end
