/- sorted: merging from the bottom up between two lists; contract by hand. -/
import Derived.Test.YtljahmnilmjlpaaSortRuns
import Derived.Deep.RegionLaw
namespace Go.Proofs.Ytljahmnilmjlpaa.P
open Go.RowKit Go.Proofs.YtljahmnilmjlpaaW.PrintWords Go.Proofs.YtljahmnilmjlpaaW.PrintLast Go.Proofs.YtljahmnilmjlpaaW.PrintMore
attribute [local go_sem] max2_int min2_int max_two min_two max_three min_three max_four min_four
set_option linter.unusedVariables false
set_option linter.unusedSimpArgs false

/-- the two lists that are made at the beginning, in any order -/
def SX (w : World) (n : Nat) (f : Option (Value × List S23)) (m : Option Value) (W : World) : Prop :=
  Below w.heap.size w W ∧ (∀ v xs, f = some (v, xs) → Kd.R k23 23 W w.heap.size (fun _ => True) v xs) ∧ (∀ u, m = some u → Kd.R k23 23 W w.heap.size (fun _ => True) u (List.replicate n z23)) ∧
  (∀ v xs u, f = some (v, xs) → m = some u → ∀ k, v.ownBlock = some k → u.ownBlock ≠ some k)
theorem own_lt23 {W : World} {base : Nat} {P : Nat → Prop} {v : Value} {xs : List S23} (h : Kd.R k23 23 W base P v xs) {k : Nat} (hk : v.ownBlock = some k) : k < W.heap.size := Kd.R_lt h k hk
theorem SX.lit {w W w1 : World} {n : Nat} {m : Option Value} {v1 : Value} (h : SX w n none m W) (ho : Kd.R k23 23 w1 w.heap.size (fun _ => True) v1 []) (hb : Below w.heap.size w w1) (hg : W.grownBy w1 none) (hat : ∃ b, v1.ownBlock = some b ∧ W.heap.size ≤ b) :
    SX w n (some (v1, [])) m w1 := by
  obtain ⟨h1, h2, h3, h4⟩ := h
  refine ⟨hb, fun v xs e => by injection e with e; injection e with e1 e2; subst e1 e2; exact ho, fun u e => Kd.R_grown (h3 u e) hg (fun k _ e => by cases e), fun v xs u e e2 k hk hk2 => ?_⟩
  injection e with e
  injection e with e3 e4
  subst e3
  obtain ⟨b, hb1, hb2⟩ := hat
  rw [hb1] at hk
  injection hk with hk
  have := own_lt23 (h3 u e2) hk2
  omega
theorem SX.app {w W w1 : World} {n : Nat} {m : Option Value} {v v1 : Value} {xs ys : List S23} (h : SX w n (some (v, xs)) m W) (ho : Kd.R k23 23 w1 w.heap.size (fun _ => True) v1 ys) (hb : Below w.heap.size w w1) (hg : W.grownBy w1 v.ownBlock)
    (hat : v1.ownBlock = v.ownBlock ∨ ∃ b, v1.ownBlock = some b ∧ W.heap.size ≤ b) : SX w n (some (v1, ys)) m w1 := by
  obtain ⟨h1, h2, h3, h4⟩ := h
  refine ⟨hb, fun v xs e => by injection e with e; injection e with e1 e2; subst e1 e2; exact ho, fun u e => ?_, fun v' xs' u e e2 k hk hk2 => ?_⟩
  · exact Kd.R_mono (Kd.R_grown (Kd.R_tight rfl (h3 u e)) hg (fun k hk e3 => h4 v xs u rfl e k e3.symm hk.symm)) (fun _ _ => trivial)
  · injection e with e
    injection e with e3 e4
    subst e3
    rcases hat with hat | ⟨b, hb1, hb2⟩
    · rw [hat] at hk
      exact h4 v xs u rfl e2 k hk hk2
    · rw [hb1] at hk
      injection hk with hk
      have := own_lt23 (h3 u e2) hk2
      omega
theorem SX.make {w W w1 : World} {n : Nat} {f : Option (Value × List S23)} {v1 : Value} (h : SX w n f none W) (ho : Kd.R k23 23 w1 w.heap.size (fun _ => True) v1 (List.replicate n z23)) (hb : Below w.heap.size w w1) (hg : W.grownBy w1 none) (hat : ∃ b, v1.ownBlock = some b ∧ W.heap.size ≤ b) :
    SX w n f (some v1) w1 := by
  obtain ⟨h1, h2, h3, h4⟩ := h
  refine ⟨hb, fun v xs e => Kd.R_grown (h2 v xs e) hg (fun k _ e => by cases e), fun u e => by injection e with e; subst e; exact ho, fun v xs u e e2 k hk hk2 => ?_⟩
  injection e2 with e2
  subst e2
  obtain ⟨b, hb1, hb2⟩ := hat
  rw [hb1] at hk2
  injection hk2 with hk2
  have := own_lt23 (h2 v xs e) hk
  omega

theorem litR (W : World) (base : Nat) (hb : base ≤ W.heap.size) : Kd.R k23 23 (W.alloc (.cells #[] 23)) base (fun _ => True) (.slice (some ⟨W.heap.size, 0, none⟩) 0 0) [] := by
  refine ⟨fun k _ => trivial, [], ?_, Reps.none _ _⟩
  have h2 := World.ownsRow_lit (base := base) (e := 23) (size := 3) W #[] 0 hb (by simp [maxLen]) (by simp)
  show (W.alloc (.cells #[] 23)).ownsRow base 23 3 _ 0 []
  simpa using h2
theorem litR' (W : World) (base g : Nat) (hg : g = W.heap.size) (hb : base ≤ W.heap.size) : Kd.R k23 23 (W.alloc (.cells #[] 23)) base (fun _ => True) (.slice (some ⟨g, 0, none⟩) 0 0) [] := by
  subst hg
  exact litR W base hb
theorem madeR (W : World) (base n : Nat) (hb : base ≤ W.heap.size) (hn : n ≤ 3518437208882) : Kd.R k23 23 (W.alloc (.cells (madeCells (#[.int .i64 0, .string ⟨#[]⟩, .string ⟨#[]⟩] : Array Value) (n * 3)) 23)) base (fun _ => True) (.slice (some ⟨W.heap.size, 0, none⟩) n n) (List.replicate n z23) := by
  have hrep := Kd.reps_made (R := k23.M W base (fun _ => True)) (z := .agg #[.int .i64 0, .string ⟨#[]⟩, .string ⟨#[]⟩]) (size := 3) (z0 := z23) (by decide) (by decide) (k23_mkM _ _ _ z23) n
  have h2 := World.ownsRow_lit (base := base) (e := 23) (size := 3) W (madeCells (#[.int .i64 0, .string ⟨#[]⟩, .string ⟨#[]⟩] : Array Value) (n * 3)) n hb (by simp [maxLen]; omega) (by rw [size_madeCells])
  refine ⟨fun k _ => trivial, (madeCells (#[.int .i64 0, .string ⟨#[]⟩, .string ⟨#[]⟩] : Array Value) (n * 3)).toList, ?_, ?_⟩
  · show (W.alloc _).ownsRow base 23 3 _ (List.replicate n z23).length _
    rw [List.length_replicate]
    simpa using h2
  · refine hrep.imp_ (fun p c hp => k23.M_mono (fun k hk => ⟨trivial, fun he => ?_⟩) (Kd.M_below (k23.M_bound hp) (below_alloc (Below.refl _ _) _)))
    have h3 : k = W.heap.size := by simpa [Value.ownBlock] using he
    have := hk.2.2.1
    omega

/-- what is known ahead of a round of the outer loop -/
def SL (w : World) (l : List S23) (wd : Nat) (vf vt : Value) (W : World) : Prop :=
  Below w.heap.size w W ∧ (∃ F, St.Runs leR wd l F ∧ Kd.R k23 23 W w.heap.size (fun _ => True) vf F) ∧ (∃ Z : List S23, Z.length = l.length ∧ Kd.R k23 23 W w.heap.size (fun _ => True) vt Z) ∧ (∀ k, vf.ownBlock = some k → vt.ownBlock ≠ some k)
theorem SL.one {w W : World} {l : List S23} {vf vt : Value} (h : SX w l.length (some (vf, [] ++ l)) (some vt) W) : SL w l 1 vf vt W := by
  obtain ⟨h1, h2, h3, h4⟩ := h
  exact ⟨h1, ⟨l, St.Runs.one l, h2 _ _ rfl⟩, ⟨_, List.length_replicate, h3 _ rfl⟩, h4 _ _ _ rfl rfl⟩

/-- what is known ahead of a round of the inner loop -/
def IL (w : World) (l : List S23) (wd gf go cf ct : Nat) (F : List S23) (m : Nat) (W : World) : Prop :=
  Below w.heap.size w W ∧ Kd.R k23 23 W w.heap.size (fun k => k = gf) (.slice (some ⟨gf, 0, none⟩) l.length cf) F ∧
  ∃ Z, St.RunsTo leR (wd + wd) m l Z ∧ Kd.R k23 23 W w.heap.size (fun k => k = go) (.slice (some ⟨go, 0, none⟩) l.length ct) Z
theorem SL.open_ {w W : World} {l : List S23} {wd : Nat} {vf vt : Value} (h : SL w l wd vf vt W) (hl : 0 < l.length) :
    ∃ gf go cf ct F, vf = .slice (some ⟨gf, 0, none⟩) l.length cf ∧ vt = .slice (some ⟨go, 0, none⟩) l.length ct ∧ l.length ≤ cf ∧ l.length ≤ ct ∧ gf ≠ go ∧ w.heap.size ≤ gf ∧ w.heap.size ≤ go ∧ St.Runs leR wd l F ∧ IL w l wd gf go cf ct F 0 W := by
  obtain ⟨hB, ⟨F, hF, hR⟩, ⟨Z, hZ, hT⟩, hd⟩ := h
  obtain ⟨gf, cf, rfl, b1, _, _⟩ := Kd.R_form hR (by rw [hF.1]; exact hl)
  obtain ⟨go, ct, rfl, b2, _, _⟩ := Kd.R_form hT (by rw [hZ]; exact hl)
  have t1 := Kd.R_mono (Kd.R_tight rfl hR) (ok' := fun k => k = gf) (fun k hk => by simpa [Value.ownBlock] using hk)
  have t2 := Kd.R_mono (Kd.R_tight rfl hT) (ok' := fun k => k = go) (fun k hk => by simpa [Value.ownBlock] using hk)
  have n1 := (Kd.R_reads' hR).2.1
  have n2 := (Kd.R_reads' hT).2.1
  rw [hF.1] at t1 n1
  rw [hZ] at t2 n2
  exact ⟨gf, go, cf, ct, F, by rw [hF.1], by rw [hZ], n1, n2, fun e => hd gf rfl (by rw [e]; rfl), b1, b2, hF, hB, t1, Z, St.RunsTo.zero _ _ _ hZ, t2⟩
/-- One call of merged. -/
theorem IL.mg {w W : World} {l F : List S23} {wd gf go cf ct m a mid e : Nat} (h : IL w l wd gf go cf ct F m W) (hF : F.length = l.length) (hne : gf ≠ go) (hb : w.heap.size ≤ go) (h1 : a ≤ mid) (h2 : mid ≤ e) (h3 : e ≤ l.length) :
    ∃ Z, St.RunsTo leR (wd + wd) m l Z ∧ MG w.heap.size gf go cf ct F Z a (e - a) (St.merge leR ((F.drop a).take (mid - a)) ((F.drop mid).take (e - mid))) 0 a (mid - a) mid (e - mid) w W := by
  obtain ⟨hB, hR, Z, hZ, hT⟩ := h
  refine ⟨Z, hZ, ?_, ⟨Z, rfl, ?_, rfl, rfl⟩, by omega, by omega, by omega, by rw [hZ.1]; omega, hne, hb, hB⟩
  · rw [hF]; exact hR
  · rw [hZ.1]; exact hT
theorem IL.next {w W : World} {l F Z : List S23} {wd gf go cf ct m a mid e : Nat} (hF : St.Runs leR wd l F) (hZ : St.RunsTo leR (wd + wd) m l Z) (ha : a = m * (wd + wd)) (hal : a < l.length) (hmid : mid = min (a + wd) l.length) (he : e = min (a + (wd + wd)) l.length)
    (h : MG w.heap.size gf go cf ct F Z a (e - a) (St.merge leR ((F.drop a).take (mid - a)) ((F.drop mid).take (e - mid))) (e - a) a 0 mid 0 w W) : IL w l wd gf go cf ct F (m + 1) W := by
  obtain ⟨hR, ⟨zs, hz, hP, hT, hD⟩, s1, s2, s3, s4, s5, s6, s7⟩ := h
  rw [hF.1] at hR
  rw [hZ.1] at hP hz
  rw [List.take_zero, List.take_zero, St.merge_nil_left, List.append_nil, show a + (e - a) = e by omega] at hT
  exact ⟨s7, hR, zs, St.RunsTo.next ordR hF hZ ha hal hmid he hz hT, hP⟩

theorem cut_run (g n c lo hi len : Nat) (hlen : hi - lo = len) (lI hI : Int) (hl : lI = lo) (hh : hI = hi) (h1 : lo ≤ hi) (h2 : hi ≤ n) (hc : n ≤ c) : ∃ A : Option Addr, (0 < len → A = some ⟨g, lo * 3, none⟩) ∧ len ≤ c - lo ∧
    ∀ W : World, (Instr.slice 27 (.slice (some ⟨g, 0, none⟩) n c) (some (.int .i64 lI)) (some (.int .i64 hI)) none).run Try.prog W = .ok (.slice A len (c - lo)) W := by
  subst hl hh hlen
  obtain ⟨i0, hi0, hz, hs, _⟩ := info_parts info23
  have h := cut_mid (P := Try.prog) 27 23 .i64 .i64 Try.underlying27 hi0 3 hs (some ⟨g, 0, none⟩) n c (lo : Int) (hi : Int) (by omega) (by omega) (by omega) hc
  rw [Int.toNat_natCast, Int.toNat_natCast] at h
  refine ⟨_, ?_, by omega, h⟩
  intro h3
  rw [if_neg (by omega)]
  simp only [Option.map_some, Addr.add_mid, Nat.zero_add]
theorem IL.drew {w W : World} {l F : List S23} {wd gf go cf ct m : Nat} (h : IL w l wd gf go cf ct F m W) : IL w l wd gf go cf ct F m W.drew := by
  obtain ⟨hB, hR, Z, hZ, hT⟩ := h
  exact ⟨below_drew1 hB, Kd.R_drew hR, Z, hZ, Kd.R_drew hT⟩

theorem Runs_ok {wd : Nat} {l F : List S23} (h : St.Runs leR wd l F) (hw : 0 < wd) (hl : okR l) : okR F := by
  intro z hz
  obtain ⟨i, hi, rfl⟩ := List.getElem_of_mem hz
  have h1 : F[i] ∈ (F.drop (i / wd * wd)).take wd := by
    have hm := Nat.mod_add_div i wd
    have hlt := Nat.mod_lt i hw
    rw [Nat.mul_comm] at hm
    refine List.mem_iff_getElem.2 ⟨i % wd, by rw [List.length_take, List.length_drop]; omega, ?_⟩
    rw [List.getElem_take, List.getElem_drop]
    congr 1
    omega
  rw [h.2] at h1
  have h2 : F[i] ∈ St.cls leR F[i] (St.isort leR ((l.drop (i / wd * wd)).take wd)) := by
    unfold St.cls
    exact List.mem_filter.2 ⟨h1, by rw [ordR.refl]; rfl⟩
  rw [St.isort_cls ordR] at h2
  exact hl _ (List.mem_of_mem_drop (List.mem_of_mem_take (St.cls_mem h2).1))
theorem IL.close {w W : World} {l F : List S23} {wd gf go cf ct m : Nat} (h : IL w l wd gf go cf ct F m W) (hF : F.length = l.length) (hne : gf ≠ go) (hm : l.length ≤ m * (wd + wd)) :
    SL w l (wd + wd) (.slice (some ⟨go, 0, none⟩) l.length ct) (.slice (some ⟨gf, 0, none⟩) l.length cf) W := by
  obtain ⟨hB, hR, Z, hZ, hT⟩ := h
  exact ⟨hB, ⟨Z, hZ.runs hm, Kd.R_mono hT (fun _ _ => trivial)⟩, ⟨F, hF, Kd.R_mono hR (fun _ _ => trivial)⟩, fun k h1 h2 => by
    simp only [Value.ownBlock, Option.some.injEq] at h1 h2
    exact hne (by rw [show gf = k from by simpa using h2, show go = k from by simpa using h1])⟩

theorem madeR' (W : World) (base n g : Nat) (hg : g = W.heap.size) (hb : base ≤ W.heap.size) (hn : n ≤ 3518437208882) : Kd.R k23 23 (W.alloc (.cells (madeCells (#[.int .i64 0, .string ⟨#[]⟩, .string ⟨#[]⟩] : Array Value) (n * 3)) 23)) base (fun _ => True) (.slice (some ⟨g, 0, none⟩) n n) (List.replicate n z23) := by
  subst hg
  exact madeR W base n hb hn
theorem SL.two {w W w2 : World} {l : List S23} {vf : Value} {g gl : Nat} (hg : W.grownBy w2 (some gl)) (hat : vf.ownBlock = some gl ∨ ∃ b, vf.ownBlock = some b ∧ W.heap.size ≤ b) (hne : g ≠ gl) (ho : Kd.R k23 23 w2 w.heap.size (fun _ => True) vf ([] ++ l)) (hb : Below w.heap.size w w2)
    (hm : Kd.R k23 23 W w.heap.size (fun _ => True) (.slice (some ⟨g, 0, none⟩) l.length l.length) (List.replicate l.length z23)) : SL w l 1 vf (.slice (some ⟨g, 0, none⟩) l.length l.length) w2 := by
  have hlt : g < W.heap.size := own_lt23 hm rfl
  have t := Kd.R_mono (Kd.R_tight rfl hm) (ok' := fun k => k = g) (fun k hk => by simpa [Value.ownBlock] using hk)
  refine ⟨hb, ⟨l, St.Runs.one l, ho⟩, ⟨_, List.length_replicate, Kd.R_mono (Kd.R_grown t hg (fun k hk e => hne (by injection e with e; rw [← hk, e]))) (fun _ _ => trivial)⟩, fun k h1 h2 => ?_⟩
  have e2 : g = k := by simpa [Value.ownBlock] using h2
  subst e2
  rcases hat with h | ⟨b, h, hb2⟩
  · rw [h] at h1
    exact hne (by injection h1 with h1; exact h1.symm)
  · rw [h] at h1
    injection h1 with h1
    omega

set_option maxHeartbeats 4000000 in
set_option maxRecDepth 100000 in
theorem sorted_any (A : Option Addr) (c : Nat) (l : List S23) (w : World) (hr : Kd.C k23 w A l.length l) (hc : l.length ≤ c) (hok : okR l) (hn : l.length ≤ 3518437208882) :
    Calls Try.prog 32 #[.slice A l.length c, .func (.func 8) #[] #[]] w fun e w' => ∃ v, e = .returned v ∧ Kd.R k23 23 w' w.heap.size (fun _ => True) v (St.isort leR l) ∧ Below w.heap.size w w' := by
  have HR := Aside0.mk hr
  have HC := Aside0.mk hc
  have HOK := Aside0.mk hok
  have HN := Aside0.mk hn
  clear hr hc hok hn
  have hu27 := Try.underlying27
  have hu23 := Try.underlying23
  go_enter Try.func32, Try.ntmps32
  have HX : Aside0 (SX w l.length none none w) := ⟨Below.refl _ _, fun _ _ e => (by cases e), fun _ e => (by cases e), fun _ _ _ e => (by cases e)⟩
  have HRR := Aside0.mk (fun (W : World) (hb : Below w.heap.size w W) => (ReadsRow.imp_ HR.out hb (fun x cs hp => k23_open hp) : ReadsRow (fun (x : S23) cs => cs = [.int .i64 x.f0, .string x.f1, .string x.f2]) k23.sz W A l.length l))
  have hlen : (l.length : Int) ≤ 3518437208882 := by have := HN.out; omega
  go_wp2_with fail
  have hmake : ∀ W : World, (Instr.makeSlice 27 (.int .i64 (l.length : Int)) (.int .i64 (l.length : Int))).run Try.prog W = .ok (.slice (some ⟨W.heap.size, 0, none⟩) l.length l.length) (W.alloc (.cells (madeCells (#[.int .i64 0, .string ⟨#[]⟩, .string ⟨#[]⟩] : Array Value) (l.length * 3)) 23)) := by
    intro W
    obtain ⟨i0, hi, hz, hs, hbt⟩ := info_parts info23
    have hN := HN.out
    have h := run_make (P := Try.prog) W 27 23 i0 _ Try.underlying27 hi hz .i64 .i64 (l.length : Int) (l.length : Int) (by omega) (by omega) (by rw [hbt]; omega) (by omega)
    rw [hs, Int.toNat_natCast] at h
    exact h
  go_region_law ((refine Kd.R_append_rows_step k23 (Rr := fun x cs => cs = [.int .i64 x.f0, .string x.f1, .string x.f2]) (w0 := w) w.heap.size (by rfl) (.tmp 11) (.tmp 12) 27 23 (.agg #[(.int .i64 0), (.string ⟨#[]⟩), (.string ⟨#[]⟩)]) 40 (by rfl) Try.underlying27 info23 rfl (by decide) (by omega) (.slice (some ⟨_, 0, none⟩) 0 0) ([] : List S23) l _ _ _ (fun _ => True) (fun _ => False) (by rfl) (by rfl) ?aO ?aR (fun x cs h => by subst h; exact k23_mkM _ _ _ x) (fun _ h => h.elim) (fun _ _ => trivial) ?aB ?aS ?aL ?_); (case aR => refine HRR.out _ ?_; repeat (first | exact Below.refl _ _ | (with_reducible refine below_drew1 ?_) | (with_reducible refine Below.alloc ?_ (by simp; done) _) | (with_reducible refine Below.alloc ?_ (by simp; omega) _))); (case aO => repeat (first | (with_reducible refine Kd.R_drew ?_) | exact litR _ _ (by simp; done) | exact litR _ _ (by simp; omega) | exact litR' _ _ _ (by simp; done) (by simp; done) | exact litR' _ _ _ (by simp; done) (by simp; omega) | (with_reducible refine Kd.R_alloc ?_ _))); (case aB => repeat (first | exact Below.refl _ _ | (with_reducible refine below_drew1 ?_) | (with_reducible refine Below.alloc ?_ (by simp; done) _) | (with_reducible refine Below.alloc ?_ (by simp; omega) _))); (case aS => first | (simp; done) | (simp; omega)); (case aL => simp; omega); intro va w2 ho hb hg hat; have HGO := Aside0.mk ho; have HBO := Aside0.mk hb; have HGG := Aside0.mk hg; have HAT := Aside0.mk hat; clear ho hb hg hat)
  · have HS : Aside0 (SL w l 1 va (.slice (some ⟨w2.heap.size, 0, none⟩) l.length l.length) (w2.alloc (.cells (madeCells (#[.int .i64 0, .string ⟨#[]⟩, .string ⟨#[]⟩] : Array Value) (l.length * 3)) 23))) := by
      refine ⟨SL.one ⟨HBO.out.alloc HBO.out.size _, fun v xs e => ?_, fun u e => ?_, fun v xs u e e2 k hk hk2 => ?_⟩⟩
      · injection e with e; injection e with e1 e2; subst e1 e2; exact Kd.R_alloc HGO.out _
      · injection e with e; subst e; exact madeR w2 _ _ HBO.out.size HN.out
      · injection e with e; injection e with e1 e3; subst e1
        injection e2 with e2; subst e2
        have := own_lt23 HGO.out hk
        simp [Value.ownBlock] at hk2
        omega
    clear HGO HBO HGG HAT HX HRR HR
    generalize w2.alloc (.cells (madeCells (#[.int .i64 0, .string ⟨#[]⟩, .string ⟨#[]⟩] : Array Value) (l.length * 3)) 23) = W1 at HS ⊢
    generalize (Value.slice (some ⟨w2.heap.size, 0, none⟩) l.length l.length) = vt0 at HS ⊢
    go_wp2_with fail
    go_loopw [5, 6, 7] (fun vf vt vw wr => ∃ wd : Nat, vw = .int .i64 wd ∧ 0 < wd ∧ wd ≤ 7036874417764 ∧ Aside0 (SL w l wd vf vt wr)) (fun _ _ vw _ => l.length - (intOf vw).toNat)
    case atStart => exact ⟨1, rfl, by omega, by omega, HS⟩
    case round =>
      clear HS
      obtain ⟨wd, rfl, hw0, hw1, hS⟩ := hrel
      by_cases hlt : wd < l.length
      · have hd1 : decide ((wd : Int) < (l.length : Int)) = true := by simp; omega
        have hd2 : decide (wd < l.length) = true := by simp; omega
        obtain ⟨gf, go, cf, ct, F, rfl, rfl, hcf, hct, hne, hbf, hbg, hF, hI⟩ := hS.out.open_ (by omega)
        have HI := Aside0.mk hI
        have HF := Aside0.mk hF
        have HOKF : Aside0 (okR F) := ⟨Runs_ok hF hw0 HOK.out⟩
        have HNE := Aside0.mk hne
        have HBF := Aside0.mk hbf
        have HBG := Aside0.mk hbg
        clear hI hF hne hbf hbg hS
        go_wp2_with fail
        go_loopw [8] (fun vat wr => ∃ m a : Nat, vat = .int .i64 a ∧ a = m * (wd + wd) ∧ a ≤ 17592186044410 ∧ Aside0 (IL w l wd gf go cf ct F m wr)) (fun vat _ => l.length - (intOf vat).toNat)
        case atStart => exact ⟨0, 0, rfl, by rw [Nat.zero_mul], by omega, HI⟩
        case round =>
          clear HI
          obtain ⟨m, a, rfl, ha, hab, hI⟩ := hrel
          have HAA := Aside0.mk ha
          clear ha
          by_cases hat : a < l.length
          · have hd3 : decide ((a : Int) < (l.length : Int)) = true := by simp; omega
            have hd4 : decide (a < l.length) = true := by simp; omega
            by_cases h1 : (a : Int) + (wd : Int) ≤ (l.length : Int)
            · by_cases h2 : (a : Int) + 2 * (wd : Int) ≤ (l.length : Int)
              · obtain ⟨A0, hA0, d0, k0⟩ := cut_run go l.length ct a (a + 2 * wd) (2 * wd) (by omega) (a : Int) ((a : Int) + 2 * (wd : Int)) rfl (by omega) (by omega) (by omega) hct
                obtain ⟨A1, hA1, d1, k1⟩ := cut_run gf l.length cf a (a + wd) (wd) (by omega) (a : Int) ((a : Int) + (wd : Int)) rfl (by omega) (by omega) (by omega) hcf
                obtain ⟨A2, hA2, d2, k2⟩ := cut_run gf l.length cf (a + wd) (a + 2 * wd) (wd) (by omega) ((a : Int) + (wd : Int)) ((a : Int) + 2 * (wd : Int)) (by omega) (by omega) (by omega) (by omega) hcf
                have GK : Aside0 (∀ W : World, IL w l wd gf go cf ct F m W → Calls Try.prog 35 #[.slice A0 (2 * wd) (ct - a), .slice A1 (wd) (cf - a), .slice A2 (wd) (cf - (a + wd)), .func (.func 8) #[] #[]] W fun e w' => e = .returned (.tuple #[]) ∧ IL w l wd gf go cf ct F (m + 1) w') := by
                  refine ⟨fun W hW => ?_⟩
                  obtain ⟨Z, hZ, hM⟩ := IL.mg (a := a) (mid := a + wd) (e := a + 2 * wd) hW HF.out.1 HNE.out HBG.out (by omega) (by omega) (by omega)
                  have e1 : a + 2 * wd - a = 2 * wd := by omega
                  have e2 : a + wd - a = wd := by omega
                  have e3 : a + 2 * wd - (a + wd) = wd := by omega
                  have hx := fun (w2 : World) => IL.next (w := w) (W := w2) (cf := cf) (ct := ct) (gf := gf) (go := go) (mid := a + wd) (e := a + 2 * wd) HF.out hZ HAA.out hat (by omega) (by omega)
                  rw [e1, e2, e3] at hM hx
                  refine (merged_any w gf go cf ct F Z a (2 * wd) a (wd) (a + wd) (wd) _ _ _ A0 A1 A2 W hA0 hA1 hA2 d0 d1 d2 HOKF.out (by have := HN.out; omega) hM).mono ?_
                  rintro e w2 ⟨rfl, hM2⟩
                  exact ⟨rfl, hx w2 hM2⟩
                clear hA0 hA1 hA2 d0 d1 d2
                have hId := Aside0.mk hI.out.drew
                go_wp2_with fail
                go_region_held3 (fun w' => True) (trivial) ((go_at_call 35; refine (GK.out _ hId.out).mono ?_; rintro e w2 ⟨rfl, hI2⟩; have HI2 := Aside0.mk hI2; clear hI2))
                go_wp2_with fail
                go_roundw
                case rel => exact ⟨m + 1, a + 2 * wd, by first | rfl | go_num | (congr 1; omega), by have := HAA.out; rw [Nat.add_mul, Nat.one_mul]; omega, by have := HN.out; omega, HI2⟩
                case measure => simp [intOf]; omega
              · obtain ⟨A0, hA0, d0, k0⟩ := cut_run go l.length ct a (l.length) (l.length - a) (by omega) (a : Int) ((l.length : Int)) rfl (by omega) (by omega) (by omega) hct
                obtain ⟨A1, hA1, d1, k1⟩ := cut_run gf l.length cf a (a + wd) (wd) (by omega) (a : Int) ((a : Int) + (wd : Int)) rfl (by omega) (by omega) (by omega) hcf
                obtain ⟨A2, hA2, d2, k2⟩ := cut_run gf l.length cf (a + wd) (l.length) (l.length - (a + wd)) (by omega) ((a : Int) + (wd : Int)) ((l.length : Int)) (by omega) (by omega) (by omega) (by omega) hcf
                have GK : Aside0 (∀ W : World, IL w l wd gf go cf ct F m W → Calls Try.prog 35 #[.slice A0 (l.length - a) (ct - a), .slice A1 (wd) (cf - a), .slice A2 (l.length - (a + wd)) (cf - (a + wd)), .func (.func 8) #[] #[]] W fun e w' => e = .returned (.tuple #[]) ∧ IL w l wd gf go cf ct F (m + 1) w') := by
                  refine ⟨fun W hW => ?_⟩
                  obtain ⟨Z, hZ, hM⟩ := IL.mg (a := a) (mid := a + wd) (e := l.length) hW HF.out.1 HNE.out HBG.out (by omega) (by omega) (by omega)
                  have e1 : l.length - a = l.length - a := by omega
                  have e2 : a + wd - a = wd := by omega
                  have e3 : l.length - (a + wd) = l.length - (a + wd) := by omega
                  have hx := fun (w2 : World) => IL.next (w := w) (W := w2) (cf := cf) (ct := ct) (gf := gf) (go := go) (mid := a + wd) (e := l.length) HF.out hZ HAA.out hat (by omega) (by omega)
                  rw [e1, e2, e3] at hM hx
                  refine (merged_any w gf go cf ct F Z a (l.length - a) a (wd) (a + wd) (l.length - (a + wd)) _ _ _ A0 A1 A2 W hA0 hA1 hA2 d0 d1 d2 HOKF.out (by have := HN.out; omega) hM).mono ?_
                  rintro e w2 ⟨rfl, hM2⟩
                  exact ⟨rfl, hx w2 hM2⟩
                clear hA0 hA1 hA2 d0 d1 d2
                have hId := Aside0.mk hI.out.drew
                go_wp2_with fail
                go_region_held3 (fun w' => True) (trivial) ((go_at_call 35; refine (GK.out _ hId.out).mono ?_; rintro e w2 ⟨rfl, hI2⟩; have HI2 := Aside0.mk hI2; clear hI2))
                go_wp2_with fail
                go_roundw
                case rel => exact ⟨m + 1, a + 2 * wd, by first | rfl | go_num | (congr 1; omega), by have := HAA.out; rw [Nat.add_mul, Nat.one_mul]; omega, by have := HN.out; omega, HI2⟩
                case measure => simp [intOf]; omega
            · have h2 : ¬ (a : Int) + 2 * (wd : Int) ≤ (l.length : Int) := by omega
              obtain ⟨A0, hA0, d0, k0⟩ := cut_run go l.length ct a (l.length) (l.length - a) (by omega) (a : Int) ((l.length : Int)) rfl (by omega) (by omega) (by omega) hct
              obtain ⟨A1, hA1, d1, k1⟩ := cut_run gf l.length cf a (l.length) (l.length - a) (by omega) (a : Int) ((l.length : Int)) rfl (by omega) (by omega) (by omega) hcf
              obtain ⟨A2, hA2, d2, k2⟩ := cut_run gf l.length cf (l.length) (l.length) (0) (by omega) ((l.length : Int)) ((l.length : Int)) (by omega) (by omega) (by omega) (by omega) hcf
              have GK : Aside0 (∀ W : World, IL w l wd gf go cf ct F m W → Calls Try.prog 35 #[.slice A0 (l.length - a) (ct - a), .slice A1 (l.length - a) (cf - a), .slice A2 (0) (cf - (l.length)), .func (.func 8) #[] #[]] W fun e w' => e = .returned (.tuple #[]) ∧ IL w l wd gf go cf ct F (m + 1) w') := by
                refine ⟨fun W hW => ?_⟩
                obtain ⟨Z, hZ, hM⟩ := IL.mg (a := a) (mid := l.length) (e := l.length) hW HF.out.1 HNE.out HBG.out (by omega) (by omega) (by omega)
                have e1 : l.length - a = l.length - a := by omega
                have e2 : l.length - a = l.length - a := by omega
                have e3 : l.length - (l.length) = 0 := by omega
                have hx := fun (w2 : World) => IL.next (w := w) (W := w2) (cf := cf) (ct := ct) (gf := gf) (go := go) (mid := l.length) (e := l.length) HF.out hZ HAA.out hat (by omega) (by omega)
                rw [e1, e2, e3] at hM hx
                refine (merged_any w gf go cf ct F Z a (l.length - a) a (l.length - a) (l.length) (0) _ _ _ A0 A1 A2 W hA0 hA1 hA2 d0 d1 d2 HOKF.out (by have := HN.out; omega) hM).mono ?_
                rintro e w2 ⟨rfl, hM2⟩
                exact ⟨rfl, hx w2 hM2⟩
              clear hA0 hA1 hA2 d0 d1 d2
              have hId := Aside0.mk hI.out.drew
              go_wp2_with fail
              go_region_held3 (fun w' => True) (trivial) ((go_at_call 35; refine (GK.out _ hId.out).mono ?_; rintro e w2 ⟨rfl, hI2⟩; have HI2 := Aside0.mk hI2; clear hI2))
              go_wp2_with fail
              go_roundw
              case rel => exact ⟨m + 1, a + 2 * wd, by first | rfl | go_num | (congr 1; omega), by have := HAA.out; rw [Nat.add_mul, Nat.one_mul]; omega, by have := HN.out; omega, HI2⟩
              case measure => simp [intOf]; omega
          · have hd3 : decide ((a : Int) < (l.length : Int)) = false := by simp; omega
            have hd4 : decide (a < l.length) = false := by simp; omega
            have HS2 := Aside0.mk (hI.out.close HF.out.1 HNE.out (by have := HAA.out; omega))
            clear hI
            go_wp2_with fail
            go_roundw
            case rel => exact ⟨wd + wd, by first | rfl | go_num | (congr 1; omega), by omega, by have := HN.out; omega, HS2⟩
            case measure => simp [intOf]; omega
      · have hd1 : decide ((wd : Int) < (l.length : Int)) = false := by simp; omega
        have hd2 : decide (wd < l.length) = false := by simp; omega
        obtain ⟨hB, ⟨F, hF, hR⟩, _⟩ := hS.out
        rw [hF.whole (by omega)] at hR
        have HRF := Aside0.mk hR
        have HBF := Aside0.mk hB
        clear hB hR hF hS
        go_wp2_with fail
        go_ret
        exact ⟨_, rfl, HRF.out, HBF.out⟩
  · have HS : Aside0 (SL w l 1 va (.slice (some ⟨w.heap.size + 1, 0, none⟩) l.length l.length) w2) := by
      refine ⟨SL.two HGG.out HAT.out (by simp) HGO.out HBO.out ?_⟩
      repeat (first | exact madeR' _ _ _ _ (by simp; done) (by simp; done) HN.out | exact madeR' _ _ _ _ (by simp; done) (by simp; omega) HN.out | (with_reducible refine Kd.R_drew ?_) | (with_reducible refine Kd.R_alloc ?_ _))
    clear HGO HBO HGG HAT HX HRR HR
    generalize (Value.slice (some ⟨w.heap.size + 1, 0, none⟩) l.length l.length) = vt0 at HS ⊢
    go_wp2_with fail
    go_loopw [5, 6, 7] (fun vf vt vw wr => ∃ wd : Nat, vw = .int .i64 wd ∧ 0 < wd ∧ wd ≤ 7036874417764 ∧ Aside0 (SL w l wd vf vt wr)) (fun _ _ vw _ => l.length - (intOf vw).toNat)
    case atStart => exact ⟨1, rfl, by omega, by omega, HS⟩
    case round =>
      clear HS
      obtain ⟨wd, rfl, hw0, hw1, hS⟩ := hrel
      by_cases hlt : wd < l.length
      · have hd1 : decide ((wd : Int) < (l.length : Int)) = true := by simp; omega
        have hd2 : decide (wd < l.length) = true := by simp; omega
        obtain ⟨gf, go, cf, ct, F, rfl, rfl, hcf, hct, hne, hbf, hbg, hF, hI⟩ := hS.out.open_ (by omega)
        have HI := Aside0.mk hI
        have HF := Aside0.mk hF
        have HOKF : Aside0 (okR F) := ⟨Runs_ok hF hw0 HOK.out⟩
        have HNE := Aside0.mk hne
        have HBF := Aside0.mk hbf
        have HBG := Aside0.mk hbg
        clear hI hF hne hbf hbg hS
        go_wp2_with fail
        go_loopw [8] (fun vat wr => ∃ m a : Nat, vat = .int .i64 a ∧ a = m * (wd + wd) ∧ a ≤ 17592186044410 ∧ Aside0 (IL w l wd gf go cf ct F m wr)) (fun vat _ => l.length - (intOf vat).toNat)
        case atStart => exact ⟨0, 0, rfl, by rw [Nat.zero_mul], by omega, HI⟩
        case round =>
          clear HI
          obtain ⟨m, a, rfl, ha, hab, hI⟩ := hrel
          have HAA := Aside0.mk ha
          clear ha
          by_cases hat : a < l.length
          · have hd3 : decide ((a : Int) < (l.length : Int)) = true := by simp; omega
            have hd4 : decide (a < l.length) = true := by simp; omega
            by_cases h1 : (a : Int) + (wd : Int) ≤ (l.length : Int)
            · by_cases h2 : (a : Int) + 2 * (wd : Int) ≤ (l.length : Int)
              · obtain ⟨A0, hA0, d0, k0⟩ := cut_run go l.length ct a (a + 2 * wd) (2 * wd) (by omega) (a : Int) ((a : Int) + 2 * (wd : Int)) rfl (by omega) (by omega) (by omega) hct
                obtain ⟨A1, hA1, d1, k1⟩ := cut_run gf l.length cf a (a + wd) (wd) (by omega) (a : Int) ((a : Int) + (wd : Int)) rfl (by omega) (by omega) (by omega) hcf
                obtain ⟨A2, hA2, d2, k2⟩ := cut_run gf l.length cf (a + wd) (a + 2 * wd) (wd) (by omega) ((a : Int) + (wd : Int)) ((a : Int) + 2 * (wd : Int)) (by omega) (by omega) (by omega) (by omega) hcf
                have GK : Aside0 (∀ W : World, IL w l wd gf go cf ct F m W → Calls Try.prog 35 #[.slice A0 (2 * wd) (ct - a), .slice A1 (wd) (cf - a), .slice A2 (wd) (cf - (a + wd)), .func (.func 8) #[] #[]] W fun e w' => e = .returned (.tuple #[]) ∧ IL w l wd gf go cf ct F (m + 1) w') := by
                  refine ⟨fun W hW => ?_⟩
                  obtain ⟨Z, hZ, hM⟩ := IL.mg (a := a) (mid := a + wd) (e := a + 2 * wd) hW HF.out.1 HNE.out HBG.out (by omega) (by omega) (by omega)
                  have e1 : a + 2 * wd - a = 2 * wd := by omega
                  have e2 : a + wd - a = wd := by omega
                  have e3 : a + 2 * wd - (a + wd) = wd := by omega
                  have hx := fun (w2 : World) => IL.next (w := w) (W := w2) (cf := cf) (ct := ct) (gf := gf) (go := go) (mid := a + wd) (e := a + 2 * wd) HF.out hZ HAA.out hat (by omega) (by omega)
                  rw [e1, e2, e3] at hM hx
                  refine (merged_any w gf go cf ct F Z a (2 * wd) a (wd) (a + wd) (wd) _ _ _ A0 A1 A2 W hA0 hA1 hA2 d0 d1 d2 HOKF.out (by have := HN.out; omega) hM).mono ?_
                  rintro e w2 ⟨rfl, hM2⟩
                  exact ⟨rfl, hx w2 hM2⟩
                clear hA0 hA1 hA2 d0 d1 d2
                have hId := Aside0.mk hI.out.drew
                go_wp2_with fail
                go_region_held3 (fun w' => True) (trivial) ((go_at_call 35; refine (GK.out _ hId.out).mono ?_; rintro e w2 ⟨rfl, hI2⟩; have HI2 := Aside0.mk hI2; clear hI2))
                go_wp2_with fail
                go_roundw
                case rel => exact ⟨m + 1, a + 2 * wd, by first | rfl | go_num | (congr 1; omega), by have := HAA.out; rw [Nat.add_mul, Nat.one_mul]; omega, by have := HN.out; omega, HI2⟩
                case measure => simp [intOf]; omega
              · obtain ⟨A0, hA0, d0, k0⟩ := cut_run go l.length ct a (l.length) (l.length - a) (by omega) (a : Int) ((l.length : Int)) rfl (by omega) (by omega) (by omega) hct
                obtain ⟨A1, hA1, d1, k1⟩ := cut_run gf l.length cf a (a + wd) (wd) (by omega) (a : Int) ((a : Int) + (wd : Int)) rfl (by omega) (by omega) (by omega) hcf
                obtain ⟨A2, hA2, d2, k2⟩ := cut_run gf l.length cf (a + wd) (l.length) (l.length - (a + wd)) (by omega) ((a : Int) + (wd : Int)) ((l.length : Int)) (by omega) (by omega) (by omega) (by omega) hcf
                have GK : Aside0 (∀ W : World, IL w l wd gf go cf ct F m W → Calls Try.prog 35 #[.slice A0 (l.length - a) (ct - a), .slice A1 (wd) (cf - a), .slice A2 (l.length - (a + wd)) (cf - (a + wd)), .func (.func 8) #[] #[]] W fun e w' => e = .returned (.tuple #[]) ∧ IL w l wd gf go cf ct F (m + 1) w') := by
                  refine ⟨fun W hW => ?_⟩
                  obtain ⟨Z, hZ, hM⟩ := IL.mg (a := a) (mid := a + wd) (e := l.length) hW HF.out.1 HNE.out HBG.out (by omega) (by omega) (by omega)
                  have e1 : l.length - a = l.length - a := by omega
                  have e2 : a + wd - a = wd := by omega
                  have e3 : l.length - (a + wd) = l.length - (a + wd) := by omega
                  have hx := fun (w2 : World) => IL.next (w := w) (W := w2) (cf := cf) (ct := ct) (gf := gf) (go := go) (mid := a + wd) (e := l.length) HF.out hZ HAA.out hat (by omega) (by omega)
                  rw [e1, e2, e3] at hM hx
                  refine (merged_any w gf go cf ct F Z a (l.length - a) a (wd) (a + wd) (l.length - (a + wd)) _ _ _ A0 A1 A2 W hA0 hA1 hA2 d0 d1 d2 HOKF.out (by have := HN.out; omega) hM).mono ?_
                  rintro e w2 ⟨rfl, hM2⟩
                  exact ⟨rfl, hx w2 hM2⟩
                clear hA0 hA1 hA2 d0 d1 d2
                have hId := Aside0.mk hI.out.drew
                go_wp2_with fail
                go_region_held3 (fun w' => True) (trivial) ((go_at_call 35; refine (GK.out _ hId.out).mono ?_; rintro e w2 ⟨rfl, hI2⟩; have HI2 := Aside0.mk hI2; clear hI2))
                go_wp2_with fail
                go_roundw
                case rel => exact ⟨m + 1, a + 2 * wd, by first | rfl | go_num | (congr 1; omega), by have := HAA.out; rw [Nat.add_mul, Nat.one_mul]; omega, by have := HN.out; omega, HI2⟩
                case measure => simp [intOf]; omega
            · have h2 : ¬ (a : Int) + 2 * (wd : Int) ≤ (l.length : Int) := by omega
              obtain ⟨A0, hA0, d0, k0⟩ := cut_run go l.length ct a (l.length) (l.length - a) (by omega) (a : Int) ((l.length : Int)) rfl (by omega) (by omega) (by omega) hct
              obtain ⟨A1, hA1, d1, k1⟩ := cut_run gf l.length cf a (l.length) (l.length - a) (by omega) (a : Int) ((l.length : Int)) rfl (by omega) (by omega) (by omega) hcf
              obtain ⟨A2, hA2, d2, k2⟩ := cut_run gf l.length cf (l.length) (l.length) (0) (by omega) ((l.length : Int)) ((l.length : Int)) (by omega) (by omega) (by omega) (by omega) hcf
              have GK : Aside0 (∀ W : World, IL w l wd gf go cf ct F m W → Calls Try.prog 35 #[.slice A0 (l.length - a) (ct - a), .slice A1 (l.length - a) (cf - a), .slice A2 (0) (cf - (l.length)), .func (.func 8) #[] #[]] W fun e w' => e = .returned (.tuple #[]) ∧ IL w l wd gf go cf ct F (m + 1) w') := by
                refine ⟨fun W hW => ?_⟩
                obtain ⟨Z, hZ, hM⟩ := IL.mg (a := a) (mid := l.length) (e := l.length) hW HF.out.1 HNE.out HBG.out (by omega) (by omega) (by omega)
                have e1 : l.length - a = l.length - a := by omega
                have e2 : l.length - a = l.length - a := by omega
                have e3 : l.length - (l.length) = 0 := by omega
                have hx := fun (w2 : World) => IL.next (w := w) (W := w2) (cf := cf) (ct := ct) (gf := gf) (go := go) (mid := l.length) (e := l.length) HF.out hZ HAA.out hat (by omega) (by omega)
                rw [e1, e2, e3] at hM hx
                refine (merged_any w gf go cf ct F Z a (l.length - a) a (l.length - a) (l.length) (0) _ _ _ A0 A1 A2 W hA0 hA1 hA2 d0 d1 d2 HOKF.out (by have := HN.out; omega) hM).mono ?_
                rintro e w2 ⟨rfl, hM2⟩
                exact ⟨rfl, hx w2 hM2⟩
              clear hA0 hA1 hA2 d0 d1 d2
              have hId := Aside0.mk hI.out.drew
              go_wp2_with fail
              go_region_held3 (fun w' => True) (trivial) ((go_at_call 35; refine (GK.out _ hId.out).mono ?_; rintro e w2 ⟨rfl, hI2⟩; have HI2 := Aside0.mk hI2; clear hI2))
              go_wp2_with fail
              go_roundw
              case rel => exact ⟨m + 1, a + 2 * wd, by first | rfl | go_num | (congr 1; omega), by have := HAA.out; rw [Nat.add_mul, Nat.one_mul]; omega, by have := HN.out; omega, HI2⟩
              case measure => simp [intOf]; omega
          · have hd3 : decide ((a : Int) < (l.length : Int)) = false := by simp; omega
            have hd4 : decide (a < l.length) = false := by simp; omega
            have HS2 := Aside0.mk (hI.out.close HF.out.1 HNE.out (by have := HAA.out; omega))
            clear hI
            go_wp2_with fail
            go_roundw
            case rel => exact ⟨wd + wd, by first | rfl | go_num | (congr 1; omega), by omega, by have := HN.out; omega, HS2⟩
            case measure => simp [intOf]; omega
      · have hd1 : decide ((wd : Int) < (l.length : Int)) = false := by simp; omega
        have hd2 : decide (wd < l.length) = false := by simp; omega
        obtain ⟨hB, ⟨F, hF, hR⟩, _⟩ := hS.out
        rw [hF.whole (by omega)] at hR
        have HRF := Aside0.mk hR
        have HBF := Aside0.mk hB
        clear hB hR hF hS
        go_wp2_with fail
        go_ret
        exact ⟨_, rfl, HRF.out, HBF.out⟩
  · have HS : Aside0 (SL w l 1 va (.slice (some ⟨w.heap.size, 0, none⟩) l.length l.length) w2) := by
      refine ⟨SL.two HGG.out HAT.out (by simp) HGO.out HBO.out ?_⟩
      repeat (first | exact madeR' _ _ _ _ (by simp; done) (by simp; done) HN.out | exact madeR' _ _ _ _ (by simp; done) (by simp; omega) HN.out | (with_reducible refine Kd.R_drew ?_) | (with_reducible refine Kd.R_alloc ?_ _))
    clear HGO HBO HGG HAT HX HRR HR
    generalize (Value.slice (some ⟨w.heap.size, 0, none⟩) l.length l.length) = vt0 at HS ⊢
    go_wp2_with fail
    go_loopw [5, 6, 7] (fun vf vt vw wr => ∃ wd : Nat, vw = .int .i64 wd ∧ 0 < wd ∧ wd ≤ 7036874417764 ∧ Aside0 (SL w l wd vf vt wr)) (fun _ _ vw _ => l.length - (intOf vw).toNat)
    case atStart => exact ⟨1, rfl, by omega, by omega, HS⟩
    case round =>
      clear HS
      obtain ⟨wd, rfl, hw0, hw1, hS⟩ := hrel
      by_cases hlt : wd < l.length
      · have hd1 : decide ((wd : Int) < (l.length : Int)) = true := by simp; omega
        have hd2 : decide (wd < l.length) = true := by simp; omega
        obtain ⟨gf, go, cf, ct, F, rfl, rfl, hcf, hct, hne, hbf, hbg, hF, hI⟩ := hS.out.open_ (by omega)
        have HI := Aside0.mk hI
        have HF := Aside0.mk hF
        have HOKF : Aside0 (okR F) := ⟨Runs_ok hF hw0 HOK.out⟩
        have HNE := Aside0.mk hne
        have HBF := Aside0.mk hbf
        have HBG := Aside0.mk hbg
        clear hI hF hne hbf hbg hS
        go_wp2_with fail
        go_loopw [8] (fun vat wr => ∃ m a : Nat, vat = .int .i64 a ∧ a = m * (wd + wd) ∧ a ≤ 17592186044410 ∧ Aside0 (IL w l wd gf go cf ct F m wr)) (fun vat _ => l.length - (intOf vat).toNat)
        case atStart => exact ⟨0, 0, rfl, by rw [Nat.zero_mul], by omega, HI⟩
        case round =>
          clear HI
          obtain ⟨m, a, rfl, ha, hab, hI⟩ := hrel
          have HAA := Aside0.mk ha
          clear ha
          by_cases hat : a < l.length
          · have hd3 : decide ((a : Int) < (l.length : Int)) = true := by simp; omega
            have hd4 : decide (a < l.length) = true := by simp; omega
            by_cases h1 : (a : Int) + (wd : Int) ≤ (l.length : Int)
            · by_cases h2 : (a : Int) + 2 * (wd : Int) ≤ (l.length : Int)
              · obtain ⟨A0, hA0, d0, k0⟩ := cut_run go l.length ct a (a + 2 * wd) (2 * wd) (by omega) (a : Int) ((a : Int) + 2 * (wd : Int)) rfl (by omega) (by omega) (by omega) hct
                obtain ⟨A1, hA1, d1, k1⟩ := cut_run gf l.length cf a (a + wd) (wd) (by omega) (a : Int) ((a : Int) + (wd : Int)) rfl (by omega) (by omega) (by omega) hcf
                obtain ⟨A2, hA2, d2, k2⟩ := cut_run gf l.length cf (a + wd) (a + 2 * wd) (wd) (by omega) ((a : Int) + (wd : Int)) ((a : Int) + 2 * (wd : Int)) (by omega) (by omega) (by omega) (by omega) hcf
                have GK : Aside0 (∀ W : World, IL w l wd gf go cf ct F m W → Calls Try.prog 35 #[.slice A0 (2 * wd) (ct - a), .slice A1 (wd) (cf - a), .slice A2 (wd) (cf - (a + wd)), .func (.func 8) #[] #[]] W fun e w' => e = .returned (.tuple #[]) ∧ IL w l wd gf go cf ct F (m + 1) w') := by
                  refine ⟨fun W hW => ?_⟩
                  obtain ⟨Z, hZ, hM⟩ := IL.mg (a := a) (mid := a + wd) (e := a + 2 * wd) hW HF.out.1 HNE.out HBG.out (by omega) (by omega) (by omega)
                  have e1 : a + 2 * wd - a = 2 * wd := by omega
                  have e2 : a + wd - a = wd := by omega
                  have e3 : a + 2 * wd - (a + wd) = wd := by omega
                  have hx := fun (w2 : World) => IL.next (w := w) (W := w2) (cf := cf) (ct := ct) (gf := gf) (go := go) (mid := a + wd) (e := a + 2 * wd) HF.out hZ HAA.out hat (by omega) (by omega)
                  rw [e1, e2, e3] at hM hx
                  refine (merged_any w gf go cf ct F Z a (2 * wd) a (wd) (a + wd) (wd) _ _ _ A0 A1 A2 W hA0 hA1 hA2 d0 d1 d2 HOKF.out (by have := HN.out; omega) hM).mono ?_
                  rintro e w2 ⟨rfl, hM2⟩
                  exact ⟨rfl, hx w2 hM2⟩
                clear hA0 hA1 hA2 d0 d1 d2
                have hId := Aside0.mk hI.out.drew
                go_wp2_with fail
                go_region_held3 (fun w' => True) (trivial) ((go_at_call 35; refine (GK.out _ hId.out).mono ?_; rintro e w2 ⟨rfl, hI2⟩; have HI2 := Aside0.mk hI2; clear hI2))
                go_wp2_with fail
                go_roundw
                case rel => exact ⟨m + 1, a + 2 * wd, by first | rfl | go_num | (congr 1; omega), by have := HAA.out; rw [Nat.add_mul, Nat.one_mul]; omega, by have := HN.out; omega, HI2⟩
                case measure => simp [intOf]; omega
              · obtain ⟨A0, hA0, d0, k0⟩ := cut_run go l.length ct a (l.length) (l.length - a) (by omega) (a : Int) ((l.length : Int)) rfl (by omega) (by omega) (by omega) hct
                obtain ⟨A1, hA1, d1, k1⟩ := cut_run gf l.length cf a (a + wd) (wd) (by omega) (a : Int) ((a : Int) + (wd : Int)) rfl (by omega) (by omega) (by omega) hcf
                obtain ⟨A2, hA2, d2, k2⟩ := cut_run gf l.length cf (a + wd) (l.length) (l.length - (a + wd)) (by omega) ((a : Int) + (wd : Int)) ((l.length : Int)) (by omega) (by omega) (by omega) (by omega) hcf
                have GK : Aside0 (∀ W : World, IL w l wd gf go cf ct F m W → Calls Try.prog 35 #[.slice A0 (l.length - a) (ct - a), .slice A1 (wd) (cf - a), .slice A2 (l.length - (a + wd)) (cf - (a + wd)), .func (.func 8) #[] #[]] W fun e w' => e = .returned (.tuple #[]) ∧ IL w l wd gf go cf ct F (m + 1) w') := by
                  refine ⟨fun W hW => ?_⟩
                  obtain ⟨Z, hZ, hM⟩ := IL.mg (a := a) (mid := a + wd) (e := l.length) hW HF.out.1 HNE.out HBG.out (by omega) (by omega) (by omega)
                  have e1 : l.length - a = l.length - a := by omega
                  have e2 : a + wd - a = wd := by omega
                  have e3 : l.length - (a + wd) = l.length - (a + wd) := by omega
                  have hx := fun (w2 : World) => IL.next (w := w) (W := w2) (cf := cf) (ct := ct) (gf := gf) (go := go) (mid := a + wd) (e := l.length) HF.out hZ HAA.out hat (by omega) (by omega)
                  rw [e1, e2, e3] at hM hx
                  refine (merged_any w gf go cf ct F Z a (l.length - a) a (wd) (a + wd) (l.length - (a + wd)) _ _ _ A0 A1 A2 W hA0 hA1 hA2 d0 d1 d2 HOKF.out (by have := HN.out; omega) hM).mono ?_
                  rintro e w2 ⟨rfl, hM2⟩
                  exact ⟨rfl, hx w2 hM2⟩
                clear hA0 hA1 hA2 d0 d1 d2
                have hId := Aside0.mk hI.out.drew
                go_wp2_with fail
                go_region_held3 (fun w' => True) (trivial) ((go_at_call 35; refine (GK.out _ hId.out).mono ?_; rintro e w2 ⟨rfl, hI2⟩; have HI2 := Aside0.mk hI2; clear hI2))
                go_wp2_with fail
                go_roundw
                case rel => exact ⟨m + 1, a + 2 * wd, by first | rfl | go_num | (congr 1; omega), by have := HAA.out; rw [Nat.add_mul, Nat.one_mul]; omega, by have := HN.out; omega, HI2⟩
                case measure => simp [intOf]; omega
            · have h2 : ¬ (a : Int) + 2 * (wd : Int) ≤ (l.length : Int) := by omega
              obtain ⟨A0, hA0, d0, k0⟩ := cut_run go l.length ct a (l.length) (l.length - a) (by omega) (a : Int) ((l.length : Int)) rfl (by omega) (by omega) (by omega) hct
              obtain ⟨A1, hA1, d1, k1⟩ := cut_run gf l.length cf a (l.length) (l.length - a) (by omega) (a : Int) ((l.length : Int)) rfl (by omega) (by omega) (by omega) hcf
              obtain ⟨A2, hA2, d2, k2⟩ := cut_run gf l.length cf (l.length) (l.length) (0) (by omega) ((l.length : Int)) ((l.length : Int)) (by omega) (by omega) (by omega) (by omega) hcf
              have GK : Aside0 (∀ W : World, IL w l wd gf go cf ct F m W → Calls Try.prog 35 #[.slice A0 (l.length - a) (ct - a), .slice A1 (l.length - a) (cf - a), .slice A2 (0) (cf - (l.length)), .func (.func 8) #[] #[]] W fun e w' => e = .returned (.tuple #[]) ∧ IL w l wd gf go cf ct F (m + 1) w') := by
                refine ⟨fun W hW => ?_⟩
                obtain ⟨Z, hZ, hM⟩ := IL.mg (a := a) (mid := l.length) (e := l.length) hW HF.out.1 HNE.out HBG.out (by omega) (by omega) (by omega)
                have e1 : l.length - a = l.length - a := by omega
                have e2 : l.length - a = l.length - a := by omega
                have e3 : l.length - (l.length) = 0 := by omega
                have hx := fun (w2 : World) => IL.next (w := w) (W := w2) (cf := cf) (ct := ct) (gf := gf) (go := go) (mid := l.length) (e := l.length) HF.out hZ HAA.out hat (by omega) (by omega)
                rw [e1, e2, e3] at hM hx
                refine (merged_any w gf go cf ct F Z a (l.length - a) a (l.length - a) (l.length) (0) _ _ _ A0 A1 A2 W hA0 hA1 hA2 d0 d1 d2 HOKF.out (by have := HN.out; omega) hM).mono ?_
                rintro e w2 ⟨rfl, hM2⟩
                exact ⟨rfl, hx w2 hM2⟩
              clear hA0 hA1 hA2 d0 d1 d2
              have hId := Aside0.mk hI.out.drew
              go_wp2_with fail
              go_region_held3 (fun w' => True) (trivial) ((go_at_call 35; refine (GK.out _ hId.out).mono ?_; rintro e w2 ⟨rfl, hI2⟩; have HI2 := Aside0.mk hI2; clear hI2))
              go_wp2_with fail
              go_roundw
              case rel => exact ⟨m + 1, a + 2 * wd, by first | rfl | go_num | (congr 1; omega), by have := HAA.out; rw [Nat.add_mul, Nat.one_mul]; omega, by have := HN.out; omega, HI2⟩
              case measure => simp [intOf]; omega
          · have hd3 : decide ((a : Int) < (l.length : Int)) = false := by simp; omega
            have hd4 : decide (a < l.length) = false := by simp; omega
            have HS2 := Aside0.mk (hI.out.close HF.out.1 HNE.out (by have := HAA.out; omega))
            clear hI
            go_wp2_with fail
            go_roundw
            case rel => exact ⟨wd + wd, by first | rfl | go_num | (congr 1; omega), by omega, by have := HN.out; omega, HS2⟩
            case measure => simp [intOf]; omega
      · have hd1 : decide ((wd : Int) < (l.length : Int)) = false := by simp; omega
        have hd2 : decide (wd < l.length) = false := by simp; omega
        obtain ⟨hB, ⟨F, hF, hR⟩, _⟩ := hS.out
        rw [hF.whole (by omega)] at hR
        have HRF := Aside0.mk hR
        have HBF := Aside0.mk hB
        clear hB hR hF hS
        go_wp2_with fail
        go_ret
        exact ⟨_, rfl, HRF.out, HBF.out⟩
end Go.Proofs.Ytljahmnilmjlpaa.P
