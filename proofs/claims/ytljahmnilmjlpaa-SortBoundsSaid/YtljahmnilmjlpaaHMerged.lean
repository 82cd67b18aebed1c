/- merged: two sorted lists laid into one; contract by hand. -/
import Derived.Test.YtljahmnilmjlpaaSortMath
import Derived.Test.YtljahmnilmjlpaaPf8
import Derived.Deep.RegionHeld3
import Derived.Outline
namespace Go.Proofs.Ytljahmnilmjlpaa.P
open Go.RowKit Go.Proofs.YtljahmnilmjlpaaW.PrintWords Go.Proofs.YtljahmnilmjlpaaW.PrintLast Go.Proofs.YtljahmnilmjlpaaW.PrintMore
set_option linter.unusedVariables false
set_option linter.unusedSimpArgs false

/-- the order of records -/
def cmpR (x y : S23) : Int := if x.f0 < y.f0 then -1 else if x.f0 > y.f0 then 1 else cmpL x.f1.toList y.f1.toList
def leR (x y : S23) : Bool := decide (cmpR x y ≤ 0)
def okR (l : List S23) : Prop := ∀ x ∈ l, x.f1.size ≤ 140737488351232
theorem Compare_eq (x y : S23) (hx : x.f1.size ≤ 140737488351232) : sortbuf_Compare.f 140737488351233 x.f0 x.f1 x.f2 y.f0 y.f1 y.f2 = some (cmpR x y) := by
  unfold sortbuf_Compare.f cmpR
  rw [nums_Compare_eq x.f1 y.f1 (by omega) _ (by omega)]
  split
  · rfl
  · split <;> rfl
theorem Compare_any (x y : S23) (hx : x.f1.size ≤ 140737488351232) (w : World) :
    Calls Try.prog 8 #[.agg #[.int .i64 x.f0, .string x.f1, .string x.f2], .agg #[.int .i64 y.f0, .string y.f1, .string y.f2]] w fun e w' => e = .returned (.int .i64 (cmpR x y)) ∧ Below w.heap.size w w' :=
  sortbuf_Compare.calls _ _ _ _ _ _ _ _ w (Compare_eq x y hx)

/-- An element of an own row read. -/
theorem get23 {W : World} {base : Nat} {P : Nat → Prop} {g c n : Nat} {l : List S23} (h : Kd.R k23 23 W base P (.slice (some ⟨g, 0, none⟩) n c) l) (i : Nat) (hi : i < l.length) :
    W.cell? ⟨g, i * 3, none⟩ = some (.int .i64 l[i].f0) ∧ W.cell? ⟨g, i * 3 + 1, none⟩ = some (.string l[i].f1) ∧ W.cell? ⟨g, i * 3 + 2, none⟩ = some (.string l[i].f2) ∧
    (W.frozen? ⟨g, i * 3, none⟩ = false ∧ W.frozen? ⟨g, i * 3 + 1, none⟩ = false ∧ W.frozen? ⟨g, i * 3 + 2, none⟩ = false) := by
  obtain ⟨hn, _, _⟩ := Kd.R_reads' h
  obtain ⟨ce, hcl, hM, hcc, hfr⟩ := Kd.R_elem h z23 (i : Int) (by omega) (by omega)
  obtain rfl := k23_openM hM
  rw [Int.toNat_natCast] at hcc hfr
  rw [List.getD_eq_getElem?_getD, List.getElem?_eq_getElem hi, Option.getD_some] at hcc
  exact ⟨hcc 0 _ rfl, hcc 1 _ rfl, hcc 2 _ rfl, hfr 0, hfr 1, hfr 2⟩
/-- One element of an own row written. -/
theorem put23 {W : World} {base : Nat} {P : Nat → Prop} {g c n : Nat} {l : List S23} (h : Kd.R k23 23 W base P (.slice (some ⟨g, 0, none⟩) n c) l) (i : Nat) (hi : i < l.length) (x : S23) :
    Kd.R k23 23 (((W.setCell ⟨g, i * 3, none⟩ (.int .i64 x.f0)).setCell ⟨g, i * 3 + 1, none⟩ (.string x.f1)).setCell ⟨g, i * 3 + 2, none⟩ (.string x.f2)) base P (.slice (some ⟨g, 0, none⟩) n c) (l.set i x) ∧
    W.grownBy (((W.setCell ⟨g, i * 3, none⟩ (.int .i64 x.f0)).setCell ⟨g, i * 3 + 1, none⟩ (.string x.f1)).setCell ⟨g, i * 3 + 2, none⟩ (.string x.f2)) (some g) := by
  obtain ⟨hn, _, _⟩ := Kd.R_reads' h
  obtain ⟨ce, hcl, hM, hcc, hfr⟩ := Kd.R_elem h z23 (i : Int) (by omega) (by omega)
  obtain rfl := k23_openM hM
  have hP := Kd.R_seg h (i : Int) (by omega) (by omega) (seg := [.int .i64 x.f0, .string x.f1, .string x.f2]) (j := 0) hcl hcc (show 3 ≤ 3 from by decide) (x' := x) (k23_mkM _ _ _ x) (fun _ hk => hk)
  rw [Int.toNat_natCast] at hP
  exact hP

/-- where merged stands: a's and b's rest, and what is laid already -/
def MG (base : Nat) (gf go cf ct : Nat) (xs ys : List S23) (at_ n : Nat) (T : List S23) (i ia la ib lb : Nat) (w W : World) : Prop :=
  Kd.R k23 23 W base (fun k => k = gf) (.slice (some ⟨gf, 0, none⟩) xs.length cf) xs ∧
  (∃ zs : List S23, zs.length = ys.length ∧ Kd.R k23 23 W base (fun k => k = go) (.slice (some ⟨go, 0, none⟩) ys.length ct) zs ∧
    zs.take (at_ + i) ++ St.merge leR ((xs.drop ia).take la) ((xs.drop ib).take lb) = ys.take at_ ++ T ∧ zs.drop (at_ + n) = ys.drop (at_ + n)) ∧
  i + (la + lb) = n ∧ ia + la ≤ xs.length ∧ ib + lb ≤ xs.length ∧ at_ + n ≤ ys.length ∧ gf ≠ go ∧ base ≤ go ∧ Below base w W

theorem take_head (l : List S23) (i n : Nat) (hi : i < l.length) (hn : 0 < n) : (l.drop i).take n = l[i] :: (l.drop (i + 1)).take (n - 1) := by
  obtain ⟨n, rfl⟩ : ∃ m, n = m + 1 := ⟨n - 1, by omega⟩
  rw [List.drop_eq_getElem_cons hi, List.take_succ_cons, Nat.add_sub_cancel]
/-- a's first is laid -/
theorem MG.putA {base : Nat} {gf go cf ct : Nat} {xs ys T : List S23} {at_ n i ia la ib lb : Nat} {w W : World} (h : MG base gf go cf ct xs ys at_ n T i ia la ib lb w W) (hla : 0 < la)
    (hi : ia < xs.length) (hc : lb = 0 ∨ ∃ hb : ib < xs.length, 0 < lb ∧ leR xs[ia] xs[ib] = true) :
    MG base gf go cf ct xs ys at_ n T (i + 1) (ia + 1) (la - 1) ib lb w (((W.setCell ⟨go, (at_ + i) * 3, none⟩ (.int .i64 xs[ia].f0)).setCell ⟨go, (at_ + i) * 3 + 1, none⟩ (.string xs[ia].f1)).setCell ⟨go, (at_ + i) * 3 + 2, none⟩ (.string xs[ia].f2)) := by
  obtain ⟨hF, ⟨zs, hz, hZ, hT, hD⟩, s1, s2, s3, s4, s5, s6, s7⟩ := h
  obtain ⟨hP, hg⟩ := put23 hZ (at_ + i) (by omega) xs[ia]
  refine ⟨Kd.R_grown hF hg (fun k hk e => by injection e with e; subst hk; exact s5 e), ⟨zs.set (at_ + i) xs[ia], by rw [List.length_set]; exact hz, hP, ?_, ?_⟩, by omega, by omega, s3, s4, s5, s6, ((s7.setCell s6 _).setCell s6 _).setCell s6 _⟩
  · rw [← hT, take_head xs ia la hi hla]
    have e1 : (zs.set (at_ + i) xs[ia]).take (at_ + (i + 1)) = zs.take (at_ + i) ++ [xs[ia]] := by
      rw [show at_ + (i + 1) = at_ + i + 1 from rfl, List.take_succ_eq_append_getElem (by rw [List.length_set]; omega), List.take_set_of_le (Nat.le_refl _), List.getElem_set_self]
    have e2 : St.merge leR (xs[ia] :: (xs.drop (ia + 1)).take (la - 1)) ((xs.drop ib).take lb) = xs[ia] :: St.merge leR ((xs.drop (ia + 1)).take (la - 1)) ((xs.drop ib).take lb) := by
      rcases hc with rfl | ⟨hb, hlb, hle⟩
      · rw [List.take_zero, St.merge_nil_right, St.merge_nil_right]
      · rw [take_head xs ib lb hb hlb, St.merge_cons, if_pos hle]
    rw [e1, e2, List.append_assoc]
    rfl
  · rw [List.drop_set_of_lt (by omega)]
    exact hD
/-- b's first is laid -/
theorem MG.putB {base : Nat} {gf go cf ct : Nat} {xs ys T : List S23} {at_ n i ia la ib lb : Nat} {w W : World} (h : MG base gf go cf ct xs ys at_ n T i ia la ib lb w W) (hlb : 0 < lb)
    (hi : ib < xs.length) (hc : la = 0 ∨ ∃ hb : ia < xs.length, 0 < la ∧ leR xs[ia] xs[ib] = false) :
    MG base gf go cf ct xs ys at_ n T (i + 1) ia la (ib + 1) (lb - 1) w (((W.setCell ⟨go, (at_ + i) * 3, none⟩ (.int .i64 xs[ib].f0)).setCell ⟨go, (at_ + i) * 3 + 1, none⟩ (.string xs[ib].f1)).setCell ⟨go, (at_ + i) * 3 + 2, none⟩ (.string xs[ib].f2)) := by
  obtain ⟨hF, ⟨zs, hz, hZ, hT, hD⟩, s1, s2, s3, s4, s5, s6, s7⟩ := h
  obtain ⟨hP, hg⟩ := put23 hZ (at_ + i) (by omega) xs[ib]
  refine ⟨Kd.R_grown hF hg (fun k hk e => by injection e with e; subst hk; exact s5 e), ⟨zs.set (at_ + i) xs[ib], by rw [List.length_set]; exact hz, hP, ?_, ?_⟩, by omega, s2, by omega, s4, s5, s6, ((s7.setCell s6 _).setCell s6 _).setCell s6 _⟩
  · rw [← hT, take_head xs ib lb hi hlb]
    have e1 : (zs.set (at_ + i) xs[ib]).take (at_ + (i + 1)) = zs.take (at_ + i) ++ [xs[ib]] := by
      rw [show at_ + (i + 1) = at_ + i + 1 from rfl, List.take_succ_eq_append_getElem (by rw [List.length_set]; omega), List.take_set_of_le (Nat.le_refl _), List.getElem_set_self]
    have e2 : St.merge leR ((xs.drop ia).take la) (xs[ib] :: (xs.drop (ib + 1)).take (lb - 1)) = xs[ib] :: St.merge leR ((xs.drop ia).take la) ((xs.drop (ib + 1)).take (lb - 1)) := by
      rcases hc with rfl | ⟨hb, hla, hle⟩
      · rw [List.take_zero, St.merge_nil_left, St.merge_nil_left]
      · rw [take_head xs ia la hb hla, St.merge_cons, if_neg (by rw [hle]; decide)]
    rw [e1, e2, List.append_assoc]
    rfl
  · rw [List.drop_set_of_lt (by omega)]
    exact hD
/-- What is read and written next, and what a call in between leaves. -/
theorem MG.getF {base : Nat} {gf go cf ct : Nat} {xs ys T : List S23} {at_ n i ia la ib lb : Nat} {w W : World} (h : MG base gf go cf ct xs ys at_ n T i ia la ib lb w W) (j : Nat) (hj : j < xs.length) :
    W.cell? ⟨gf, j * 3, none⟩ = some (.int .i64 xs[j].f0) ∧ W.cell? ⟨gf, j * 3 + 1, none⟩ = some (.string xs[j].f1) ∧ W.cell? ⟨gf, j * 3 + 2, none⟩ = some (.string xs[j].f2) := by
  obtain ⟨a, b, c, _⟩ := get23 h.1 j hj
  exact ⟨a, b, c⟩
theorem MG.getT {base : Nat} {gf go cf ct : Nat} {xs ys T : List S23} {at_ n i ia la ib lb : Nat} {w W : World} (h : MG base gf go cf ct xs ys at_ n T i ia la ib lb w W) (hi : i < n) :
    ∃ a b c, W.cell? ⟨go, (at_ + i) * 3, none⟩ = some (.int .i64 a) ∧ W.cell? ⟨go, (at_ + i) * 3 + 1, none⟩ = some (.string b) ∧ W.cell? ⟨go, (at_ + i) * 3 + 2, none⟩ = some (.string c) ∧
      W.frozen? ⟨go, (at_ + i) * 3, none⟩ = false ∧ W.frozen? ⟨go, (at_ + i) * 3 + 1, none⟩ = false ∧ W.frozen? ⟨go, (at_ + i) * 3 + 2, none⟩ = false := by
  obtain ⟨hF, ⟨zs, hz, hZ, hT, hD⟩, s1, s2, s3, s4, s5, s6, s7⟩ := h
  obtain ⟨a, b, c, d⟩ := get23 hZ (at_ + i) (by omega)
  exact ⟨_, _, _, a, b, c, d⟩
theorem MG.below {w0 : World} {gf go cf ct : Nat} {xs ys T : List S23} {at_ n i ia la ib lb : Nat} {W W2 : World} (h : MG w0.heap.size gf go cf ct xs ys at_ n T i ia la ib lb w0 W) (hb : Below W.heap.size W W2) :
    MG w0.heap.size gf go cf ct xs ys at_ n T i ia la ib lb w0 W2 := by
  obtain ⟨hF, ⟨zs, hz, hZ, hT, hD⟩, s1, s2, s3, s4, s5, s6, s7⟩ := h
  exact ⟨Kd.R_below hF hb, ⟨zs, hz, Kd.R_below hZ hb, hT, hD⟩, s1, s2, s3, s4, s5, s6, below_step s7 hb⟩

@[simp] theorem MG_drew {w0 : World} {gf go cf ct : Nat} {xs ys T : List S23} {at_ n i ia la ib lb : Nat} {W : World} : MG w0.heap.size gf go cf ct xs ys at_ n T i ia la ib lb w0 W.drew ↔ MG w0.heap.size gf go cf ct xs ys at_ n T i ia la ib lb w0 W := by
  refine ⟨fun h => ?_, fun h => h.below (below_drew1 (Below.refl _ _))⟩
  exact h.below (W2 := W) ⟨rfl, rfl, rfl, Nat.le_refl _, fun _ _ => rfl⟩
theorem MG.S {w0 : World} {gf go cf ct : Nat} {xs ys T : List S23} {at_ n i ia la ib lb : Nat} {W : World} (h : MG w0.heap.size gf go cf ct xs ys at_ n T i ia la ib lb w0 W) (hj : ia < xs.length) (hj2 : ib < xs.length) {X Y : S23} (hX : X = xs[ia]) (hY : Y = xs[ib]) :
    MG w0.heap.size gf go cf ct xs ys at_ n T i ia la ib lb w0 W ∧ W.cell? ⟨gf, ia * 3, none⟩ = some (.int .i64 X.f0) ∧ W.cell? ⟨gf, ia * 3 + 1, none⟩ = some (.string X.f1) ∧ W.cell? ⟨gf, ia * 3 + 2, none⟩ = some (.string X.f2) ∧
      W.cell? ⟨gf, ib * 3, none⟩ = some (.int .i64 Y.f0) ∧ W.cell? ⟨gf, ib * 3 + 1, none⟩ = some (.string Y.f1) ∧ W.cell? ⟨gf, ib * 3 + 2, none⟩ = some (.string Y.f2) := by
  subst hX hY
  obtain ⟨a, b, c⟩ := h.getF ia hj
  obtain ⟨d, e, f⟩ := h.getF ib hj2
  exact ⟨h, a, b, c, d, e, f⟩
/-- The rest of a row's cut. -/
theorem cut_one (gf ia la c : Nat) (hla : 0 < la) (hc : la ≤ c) : ∃ A : Option Addr, (0 < la - 1 → A = some ⟨gf, (ia + 1) * 3, none⟩) ∧
    ∀ W : World, (Instr.slice 27 (.slice (some ⟨gf, ia * 3, none⟩) la c) (some (.int .i64 1)) none none).run Try.prog W = .ok (.slice A (la - 1) (c - 1)) W := by
  obtain ⟨i0, hi0, hz, hs, _⟩ := info_parts info23
  refine ⟨_, ?_, cut_from (P := Try.prog) 27 23 .i64 Try.underlying27 hi0 3 hs (some ⟨gf, ia * 3, none⟩) la c 1 (by decide) (by omega)⟩
  intro h
  rw [if_neg (by show ¬ c = 1; omega)]
  simp only [Option.map_some, Addr.add_mid]
  rw [show ia * 3 + (1 : Int).toNat * 3 = (ia + 1) * 3 from by show ia * 3 + 1 * 3 = _; omega]

set_option maxHeartbeats 4000000 in
set_option maxRecDepth 100000 in
theorem merged_any (w0 : World) (gf go cf ct : Nat) (xs ys : List S23) (at_ n ia la ib lb c0 c1 c2 : Nat) (A0 A1 A2 : Option Addr) (w : World)
    (h0 : 0 < n → A0 = some ⟨go, at_ * 3, none⟩) (h1 : 0 < la → A1 = some ⟨gf, ia * 3, none⟩) (h2 : 0 < lb → A2 = some ⟨gf, ib * 3, none⟩)
    (hc0 : n ≤ c0) (hc1 : la ≤ c1) (hc2 : lb ≤ c2) (hok : okR xs) (hn : n ≤ 140737488351232)
    (hM : MG w0.heap.size gf go cf ct xs ys at_ n (St.merge leR ((xs.drop ia).take la) ((xs.drop ib).take lb)) 0 ia la ib lb w0 w) :
    Calls Try.prog 35 #[.slice A0 n c0, .slice A1 la c1, .slice A2 lb c2, .func (.func 8) #[] #[]] w fun e w' => e = .returned (.tuple #[]) ∧
      MG w0.heap.size gf go cf ct xs ys at_ n (St.merge leR ((xs.drop ia).take la) ((xs.drop ib).take lb)) n ia 0 ib 0 w0 w' := by
  generalize hT : St.merge leR ((xs.drop ia).take la) ((xs.drop ib).take lb) = T at hM ⊢
  have HM := Aside0.mk hM
  have HIA := Aside0.mk (show ia ≤ xs.length by have := hM.2.2.2.1; omega)
  have HIB := Aside0.mk (show ib ≤ xs.length by have := hM.2.2.2.2.1; omega)
  clear hM hT
  have hu27 := Try.underlying27
  have hu23 := Try.underlying23
  go_enter Try.func35, Try.ntmps35
  go_wp2_with fail
  go_loopw [1, 2, 11] (fun va vb vi wr => ∃ (i ja ka ca : Nat) (Aa : Option Addr) (jb kb cb : Nat) (Ab : Option Addr), va = .slice Aa ka ca ∧ vb = .slice Ab kb cb ∧ vi = .int .i64 i ∧ i ≤ n ∧ ka ≤ ca ∧ kb ≤ cb ∧
      Aside0 (0 < ka → Aa = some ⟨gf, ja * 3, none⟩) ∧ Aside0 (0 < kb → Ab = some ⟨gf, jb * 3, none⟩) ∧ Aside0 (MG w0.heap.size gf go cf ct xs ys at_ n T i ja ka jb kb w0 wr)) (fun _ _ vi _ => n - (intOf vi).toNat)
  case atStart => exact ⟨0, ia, la, c1, A1, ib, lb, c2, A2, rfl, rfl, rfl, by omega, hc1, hc2, ⟨h1⟩, ⟨h2⟩, HM⟩
  case round =>
    clear HM h1 h2 hc1 hc2
    obtain ⟨i, ja, ka, ca, Aa, jb, kb, cb, Ab, rfl, rfl, rfl, hi, hca, hcb, hAa, hAb, hS⟩ := hrel
    by_cases hlt : i < n
    · have hd1 : decide ((i : Int) < (n : Int)) = true := by simp; omega
      have hd2 : decide (i < n) = true := by simp; omega
      obtain rfl := h0 (by omega)
      clear h0
      have hsum : i + (ka + kb) = n := hS.out.2.2.1
      have e3 : (at_ + i) * 3 = at_ * 3 + i * 3 := Nat.add_mul at_ i 3
      have hne : gf ≠ go := hS.out.2.2.2.2.2.2.1
      have hne' : ¬ go = gf := fun e => hne e.symm
      rcases Nat.eq_zero_or_pos kb with hkb | hkb
      · subst hkb
        have hka : 0 < ka := by omega
        obtain rfl := hAa.out hka
        have hja : ja < xs.length := by have := hS.out.2.2.2.1; omega
        have HJ := Aside0.mk hja
        obtain ⟨A', hA', hcut⟩ := cut_one gf ja ka ca hka hca
        have HA' := Aside0.mk hA'
        have HCA := Aside0.mk (show ka - 1 ≤ ca - 1 by omega)
        obtain ⟨x0, x1, x2⟩ := hS.out.getF ja hja
        obtain ⟨ta, tb, tc, t0, t1, t2, f0, f1, f2⟩ := hS.out.getT hlt
        have hS2 := hS.out.putA hka hja (.inl rfl)
        rw [e3] at t0 t1 t2 f0 f1 f2 hS2
        have HS2 := Aside0.mk (hS2)
        generalize xs[ja] = X at x0 x1 x2 HS2
        clear hS2 hS hA' hAa hsum hja e3
        go_wp2_with fail
        go_region
        go_wp2_with fail
        go_region_held3 (fun w' => w'.cell? ⟨gf, ja * 3, none⟩ = some (.int .i64 X.f0) ∧ w'.cell? ⟨gf, ja * 3 + 1, none⟩ = some (.string X.f1) ∧ w'.cell? ⟨gf, ja * 3 + 2, none⟩ = some (.string X.f2)) (go_keep) (fail)
        go_wp2_with fail
        go_roundw
        case rel => exact ⟨i + 1, ja + 1, ka - 1, ca - 1, A', jb, 0, cb, Ab, rfl, rfl, by go_num, by omega, HCA.out, hcb, HA', hAb, ⟨MG_drew.2 (MG_drew.2 HS2.out)⟩⟩
        case measure => simp [intOf]; omega
      · rcases Nat.eq_zero_or_pos ka with hka | hka
        · subst hka
          obtain rfl := hAb.out hkb
          have hjb : jb < xs.length := by have := hS.out.2.2.2.2.1; omega
          obtain ⟨A', hA', hcut⟩ := cut_one gf jb kb cb hkb hcb
          have HA' := Aside0.mk hA'
          have HCB := Aside0.mk (show kb - 1 ≤ cb - 1 by omega)
          have hz1 : ((kb : Int) == 0) = false := by simp; omega
          have hz2 : decide ((kb : Int) = 0) = false := by simp; omega
          obtain ⟨x0, x1, x2⟩ := hS.out.getF jb hjb
          obtain ⟨ta, tb, tc, t0, t1, t2, f0, f1, f2⟩ := hS.out.getT hlt
          have hS2 := hS.out.putB hkb hjb (.inl rfl)
          rw [e3] at t0 t1 t2 f0 f1 f2 hS2
          have HS2 := Aside0.mk (hS2)
          generalize xs[jb] = X at x0 x1 x2 HS2
          clear hS2 hS hA' hAb hsum hjb e3
          go_wp2_with fail
          go_region
          go_wp2_with fail
          go_region_held3 (fun w' => w'.cell? ⟨gf, jb * 3, none⟩ = some (.int .i64 X.f0) ∧ w'.cell? ⟨gf, jb * 3 + 1, none⟩ = some (.string X.f1) ∧ w'.cell? ⟨gf, jb * 3 + 2, none⟩ = some (.string X.f2)) (go_keep) (fail)
          go_wp2_with fail
          go_roundw
          case rel => exact ⟨i + 1, ja, 0, ca, Aa, jb + 1, kb - 1, cb - 1, A', rfl, rfl, by go_num, by omega, hca, HCB.out, hAa, HA', ⟨MG_drew.2 (MG_drew.2 HS2.out)⟩⟩
          case measure => simp [intOf]; omega
        · obtain rfl := hAb.out hkb
          obtain rfl := hAa.out hka
          have hja : ja < xs.length := by have := hS.out.2.2.2.1; omega
          have hjb : jb < xs.length := by have := hS.out.2.2.2.2.1; omega
          obtain ⟨A', hA', hcut⟩ := cut_one gf ja ka ca hka hca
          have HA' := Aside0.mk hA'
          have HCA := Aside0.mk (show ka - 1 ≤ ca - 1 by omega)
          obtain ⟨B', hB', hcutb⟩ := cut_one gf jb kb cb hkb hcb
          have HB' := Aside0.mk hB'
          have HCB := Aside0.mk (show kb - 1 ≤ cb - 1 by omega)
          have hz1 : ((kb : Int) == 0) = false := by simp; omega
          have hz2 : decide ((kb : Int) = 0) = false := by simp; omega
          have hz3 : decide ((ka : Int) > 0) = true := by simp; omega
          have hz4 : decide (0 < ka) = true := by simp; omega
          have hka0 : (0 : Int) < (ka : Int) := by omega
          have hkb0 : (0 : Int) < (kb : Int) := by omega
          obtain ⟨X, hX⟩ : ∃ X, X = xs[ja] := ⟨_, rfl⟩
          obtain ⟨Y, hY⟩ : ∃ Y, Y = xs[jb] := ⟨_, rfl⟩
          have HX := Aside0.mk hX
          have HY := Aside0.mk hY
          have HJA := Aside0.mk hja
          have HJB := Aside0.mk hjb
          have hXs : X.f1.size ≤ 140737488351232 := by rw [hX]; exact hok _ (List.getElem_mem hja)
          have HXS := Aside0.mk hXs
          have HM1 := Aside0.mk hS.out
          obtain ⟨_, x0, x1, x2, y0, y1, y2⟩ := hS.out.S hja hjb hX hY
          have hS0 := hS.out
          clear hS hA' hB' hAa hAb hsum hXs hX hY
          go_wp2_with fail
          go_region_held3 (fun w' => MG w0.heap.size gf go cf ct xs ys at_ n T i ja ka jb kb w0 w' ∧ w'.cell? ⟨gf, ja * 3, none⟩ = some (.int .i64 X.f0) ∧ w'.cell? ⟨gf, ja * 3 + 1, none⟩ = some (.string X.f1) ∧ w'.cell? ⟨gf, ja * 3 + 2, none⟩ = some (.string X.f2) ∧
              w'.cell? ⟨gf, jb * 3, none⟩ = some (.int .i64 Y.f0) ∧ w'.cell? ⟨gf, jb * 3 + 1, none⟩ = some (.string Y.f1) ∧ w'.cell? ⟨gf, jb * 3 + 2, none⟩ = some (.string Y.f2))
            (first | (exact MG.S hM2 HJA.out HJB.out HX.out HY.out) | go_keep)
            ((go_at_call 8; refine (Compare_any X Y HXS.out _).mono ?_; rintro e w2 ⟨rfl, hB2⟩; have hM2 := MG.below (MG_drew.2 HM1.out) hB2))
          obtain ⟨_, p0, p1, p2, q0, q1, q2⟩ := hM2.S HJA.out HJB.out HX.out HY.out
          obtain ⟨ta, tb, tc, t0, t1, t2, f0, f1, f2⟩ := hM2.getT hlt
          rw [e3] at t0 t1 t2 f0 f1 f2
          generalize hle0 : decide (cmpR X Y ≤ 0) = bb
          cases bb
          · have hle : leR X Y = false := hle0
            have hS2 := hM2.putB hkb HJB.out (.inr ⟨HJA.out, hka, by rw [← HX.out, ← HY.out]; exact hle⟩)
            rw [e3, ← HY.out] at hS2
            have HS2 := Aside0.mk hS2
            clear hS2 hM2 hle hle0 x0 x1 x2 y0 y1 y2 hB2 hS0 e3
            go_wp2_with fail
            go_region_held3 (fun w' => w'.cell? ⟨gf, jb * 3, none⟩ = some (.int .i64 Y.f0) ∧ w'.cell? ⟨gf, jb * 3 + 1, none⟩ = some (.string Y.f1) ∧ w'.cell? ⟨gf, jb * 3 + 2, none⟩ = some (.string Y.f2)) (go_keep) (fail)
            go_wp2_with fail
            go_roundw
            case rel => exact ⟨i + 1, ja, ka, ca, _, jb + 1, kb - 1, cb - 1, B', rfl, rfl, by go_num, by omega, hca, HCB.out, ⟨fun _ => rfl⟩, HB', ⟨by first | exact HS2.out | exact MG_drew.2 HS2.out | exact MG_drew.2 (MG_drew.2 HS2.out)⟩⟩
            case measure => simp [intOf]; omega
          · have hle : leR X Y = true := hle0
            have hS2 := hM2.putA hka HJA.out (.inr ⟨HJB.out, hkb, by rw [← HX.out, ← HY.out]; exact hle⟩)
            rw [e3, ← HX.out] at hS2
            have HS2 := Aside0.mk hS2
            clear hS2 hM2 hle hle0 x0 x1 x2 y0 y1 y2 hB2 hS0 e3
            go_wp2_with fail
            go_region_held3 (fun w' => w'.cell? ⟨gf, ja * 3, none⟩ = some (.int .i64 X.f0) ∧ w'.cell? ⟨gf, ja * 3 + 1, none⟩ = some (.string X.f1) ∧ w'.cell? ⟨gf, ja * 3 + 2, none⟩ = some (.string X.f2)) (go_keep) (fail)
            go_wp2_with fail
            go_roundw
            case rel => exact ⟨i + 1, ja + 1, ka - 1, ca - 1, A', jb, kb, cb, _, rfl, rfl, by go_num, by omega, HCA.out, hcb, HA', ⟨fun _ => rfl⟩, ⟨by first | exact HS2.out | exact MG_drew.2 HS2.out | exact MG_drew.2 (MG_drew.2 HS2.out)⟩⟩
            case measure => simp [intOf]; omega
    · obtain rfl : i = n := by omega
      have hk0 : ka = 0 ∧ kb = 0 := by have := hS.out.2.2.1; omega
      obtain ⟨rfl, rfl⟩ := hk0
      obtain ⟨hF, ⟨zs, hz, hZ, hTT, hD⟩, s1, s2, s3, s4, s5, s6, s7⟩ := hS.out
      have G : Aside0 (MG w0.heap.size gf go cf ct xs ys at_ i T i ia 0 ib 0 w0 wr) := by
        refine ⟨hF, ⟨zs, hz, hZ, ?_, hD⟩, by omega, by have := HIA.out; omega, by have := HIB.out; omega, s4, s5, s6, s7⟩
        rw [List.take_zero, St.merge_nil_left] at hTT ⊢
        exact hTT
      clear hF hz hZ hTT hD s1 s2 s3 s4 s5 s6 s7 hS
      go_wp2_with fail
      go_end0
      exact ⟨rfl, G.out⟩
end Go.Proofs.Ytljahmnilmjlpaa.P
